/-
  A graph of words is whole, tells its words, and is the one that is made of its nodes.
-/
import Derived.Test.YtajedfbogchkcaaPlBack
set_option linter.unusedVariables false
set_option linter.unusedSimpArgs false
namespace Go.Ml
open Go.Ik
/-! runes of rests -/
def dpL : List Str → Nat
  | [] => 0
  | t :: r => max (runes t).length (dpL r)
theorem mem_dpL : ∀ {l : List Str} {t : Str}, t ∈ l → (runes t).length ≤ dpL l
  | a :: r, t, h => by
    unfold dpL
    rcases List.mem_cons.1 h with rfl | h
    · omega
    · have := mem_dpL h; omega
theorem dpL_at : ∀ {l : List Str}, l ≠ [] → ∃ t ∈ l, (runes t).length = dpL l
  | [a], _ => ⟨a, by simp, by unfold dpL dpL; omega⟩
  | a :: b :: r, _ => by
    obtain ⟨t, h1, h2⟩ := dpL_at (l := b :: r) (by simp)
    have e : dpL (a :: b :: r) = max (runes a).length (dpL (b :: r)) := by rw [dpL]
    rcases Nat.le_total (runes a).length (dpL (b :: r)) with h | h
    · exact ⟨t, by simp [List.mem_cons.1 h1], by rw [h2, e]; omega⟩
    · exact ⟨a, by simp, by rw [e]; omega⟩
theorem dpL_le {l : List Str} {n : Nat} (h : Deep n l) : dpL l ≤ n := by
  by_cases hl : l = []
  · subst hl; exact Nat.zero_le _
  · obtain ⟨t, h1, h2⟩ := dpL_at hl
    rw [← h2]; exact h t h1
theorem mem_group {r : List Str} (hr : GoodR r) {g : Nat × List Str} (hg : g ∈ groups (dropE r)) : goodN g.1 ∧ g.2 ≠ [] ∧ GoodR g.2 ∧ ∀ t ∈ g.2, encL g.1 ++ t ∈ r := by
  have hd := dropE_good hr
  have ok := groups_ok _ _ (Nat.le_refl _) hd.1 hd.2
  have h1 := ok.good g hg
  refine ⟨h1.1, h1.2.1, h1.2.2, fun t ht => dropE_mem ?_⟩
  rw [← ok.all]
  exact List.mem_flatMap.2 ⟨g, hg, List.mem_map.2 ⟨t, ht, rfl⟩⟩
theorem dpL_group {r : List Str} (hr : GoodR r) {g : Nat × List Str} (hg : g ∈ groups (dropE r)) : dpL g.2 + 1 ≤ dpL r := by
  obtain ⟨h1, h2, _, h4⟩ := mem_group hr hg
  obtain ⟨t, k1, k2⟩ := dpL_at h2
  have := mem_dpL (h4 t k1)
  rw [runes_app h1] at this
  simp only [List.length_cons] at this
  omega
theorem edgesM_pred {P : List Str → Prop} {add : GS → List Str → GS × Nat} : ∀ (gs : List (Nat × List Str)) (s : GS), (∀ g ∈ gs, ∀ s, (∀ y ∈ s, P y.1) → ∀ y ∈ (add s g.2).1, P y.1) → (∀ y ∈ s, P y.1) → ∀ y ∈ (edgesM add s gs).1, P y.1
  | [], s, _, hs => hs
  | g :: gs, s, h, hs => by
    show ∀ y ∈ (edgesM add (add s g.2).1 gs).1, _
    exact edgesM_pred gs _ (fun g' hg' => h g' (by simp [hg'])) (h g (by simp) s hs)
theorem addM_pred {P : List Str → Prop} (hP : ∀ r, P r → ∀ g ∈ groups (dropE r), P g.2) : ∀ (f : Nat) (s : GS) (rests : List Str), (∀ y ∈ s, P y.1) → P rests → ∀ y ∈ (addM f s rests).1, P y.1
  | 0, s, rests, hs, _ => hs
  | f + 1, s, rests, hs, hr => by
    unfold addM
    cases hi : s.findIdx? fun x => x.1 == rests with
    | some i => exact hs
    | none =>
      have h1 := edgesM_pred (add := addM f) (P := P) (groups (dropE rests)) (s ++ [(rests, [])]) (fun g hgm s' hs' => addM_pred hP f s' g.2 hs' (hP _ hr g hgm)) (fun y hy => by
          rcases List.mem_append.1 hy with hy | hy
          · exact hs y hy
          · simp only [List.mem_singleton] at hy; subst hy; exact hr)
      intro y hy
      rcases List.mem_or_eq_of_mem_set hy with hy | rfl
      · exact h1 y hy
      · exact hr
/-- no node has more runes to come than the root -/
theorem graph_dp {words : List Str} (h : goodL words = 0) : ∀ y ∈ graphM words, dpL y.1 ≤ dpL words := by
  have hg := good_deep h
  have := addM_pred (P := fun r => GoodR r ∧ dpL r ≤ dpL words) (fun r hr g hgm => ⟨(mem_group hr.1 hgm).2.2.1, by have := dpL_group hr.1 hgm; omega⟩) 13 [] words (by simp) ⟨hg.1, Nat.le_refl _⟩
  exact fun y hy => (this y hy).2
/-! how many nodes there are -/
def sumR (l : List Str) : Nat := (l.map fun t => (runes t).length).sum
theorem sumR_app (a b : List Str) : sumR (a ++ b) = sumR a + sumR b := by unfold sumR; simp
theorem sumR_pre {c : Nat} (hc : goodN c) : ∀ l : List Str, sumR (l.map (encL c ++ ·)) = l.length + sumR l
  | [] => rfl
  | t :: l => by
    have := sumR_pre hc l
    unfold sumR at *
    simp only [List.map_cons, List.sum_cons, List.length_cons] at *
    rw [runes_app hc, this]
    simp only [List.length_cons]; omega
def gsumR (gs : List (Nat × List Str)) : Nat := (gs.map fun g => sumR g.2 + 1).sum
theorem gsumR_le : ∀ (gs : List (Nat × List Str)), (∀ g ∈ gs, goodN g.1 ∧ g.2 ≠ []) → gsumR gs ≤ sumR (gs.flatMap fun g => g.2.map (encL g.1 ++ ·))
  | [], _ => by simp [gsumR]
  | g :: gs, h => by
    have h1 := gsumR_le gs (fun g' hg => h g' (by simp [hg]))
    have h2 := h g (by simp)
    have h3 := List.length_pos_iff.2 h2.2
    rw [List.flatMap_cons, sumR_app, sumR_pre h2.1]
    unfold gsumR at *
    simp only [List.map_cons, List.sum_cons]; omega
theorem sumR_dropE (l : List Str) : sumR (dropE l) ≤ sumR l := by
  cases l with
  | nil => exact Nat.le_refl _
  | cons a r => cases a <;> simp [dropE, sumR]
theorem edgesM_lenR {add : GS → List Str → GS × Nat} : ∀ (gs : List (Nat × List Str)) (s : GS), (∀ g ∈ gs, ∀ s, (add s g.2).1.length ≤ s.length + 1 + sumR g.2) → (edgesM add s gs).1.length ≤ s.length + gsumR gs
  | [], s, _ => by simp [edgesM, gsumR]
  | g :: gs, s, h => by
    have h1 := h g (by simp) s
    have h2 := edgesM_lenR gs (add s g.2).1 (fun g' hg' => h g' (by simp [hg']))
    show (edgesM add (add s g.2).1 gs).1.length ≤ _
    unfold gsumR at h2 ⊢
    simp only [List.map_cons, List.sum_cons]
    omega
theorem addM_lenR : ∀ (f : Nat) (s : GS) (rests : List Str), GoodR rests → (addM f s rests).1.length ≤ s.length + 1 + sumR rests
  | 0, s, rests, _ => by simp [addM]; omega
  | f + 1, s, rests, hg => by
    unfold addM
    cases hi : s.findIdx? fun x => x.1 == rests with
    | some i => simp; omega
    | none =>
      simp only [List.length_set]
      have hd := dropE_good hg
      have ok := groups_ok _ _ (Nat.le_refl _) hd.1 hd.2
      have h1 := edgesM_lenR (add := addM f) (groups (dropE rests)) (s ++ [(rests, [])]) (fun g hgm s' => addM_lenR f s' g.2 (ok.good g hgm).2.2)
      have h2 := gsumR_le (groups (dropE rests)) (fun g hgm => ⟨(ok.good g hgm).1, (ok.good g hgm).2.1⟩)
      rw [ok.all] at h2
      have h3 := sumR_dropE rests
      simp only [List.length_append, List.length_cons, List.length_nil] at h1
      omega
theorem sumR_le {l : List Str} {m : Nat} (h : ∀ x ∈ l, (runes x).length ≤ m) : sumR l ≤ l.length * m := by
  induction l with
  | nil => simp [sumR]
  | cons a l ih =>
    have h1 := h a (by simp)
    have h2 := ih fun x hx => h x (by simp [hx])
    unfold sumR at *
    rw [List.map_cons, List.sum_cons, List.length_cons, Nat.add_mul]
    omega
theorem gnodes_721 {words : List Str} (h : goodL words = 0) : (gnodes words).length ≤ 721 := by
  rw [gnodes_yes h, gnOf_len]
  unfold graphB
  split
  · simp
  · obtain ⟨h1, h2, _⟩ := good_words h
    have h3 := addM_lenR 13 [] words (good_deep h).1
    have h4 := sumR_le (l := words) (m := 12) fun x hx => (fine_of_word (h2 x hx)).2.2
    unfold graphM
    simp only [List.length_nil] at h3
    omega
/-! going over edges that lead to groups -/
theorem all2_ind {α β : Type} {R : α → β → Prop} {a : List α} {b : List β} (h : All2 R a b) : ∀ y ∈ b, ∃ x ∈ a, R x y := by
  intro y hy
  obtain ⟨k, hk⟩ := List.mem_iff_getElem?.1 hy
  have hg := All2.get h
  have hlt := (List.getElem?_eq_some_iff.1 hk).1
  have hx : a[k]? = some (a[k]'(by rw [hg.1]; exact hlt)) := by simp
  exact ⟨_, List.mem_of_getElem? hx, hg.2 k _ _ hx hk⟩
theorem eachW_all {g : List Int → Ed → Bool × List Int} {Inv : List Int → Prop} : ∀ (l : List Ed) (s : List Int), Inv s → (∀ e ∈ l, ∀ s, Inv s → (g s e).1 = true ∧ Inv (g s e).2) → (eachW g s l).1 = true ∧ Inv (eachW g s l).2
  | [], s, h, _ => ⟨rfl, h⟩
  | e :: l, s, h, hg => by
    obtain ⟨h1, h2⟩ := hg e (by simp) s h
    unfold eachW
    rw [if_pos h1]
    exact eachW_all l _ h2 fun e' he => hg e' (by simp [he])
section
variable {s : GS}
theorem gnOf_get' {n : Nat} {y : List Str × List Ed} (h : s[n]? = some y) : (gnOf s)[n]? = some (finB y.1, y.2) := by simp [gnOf, h]
theorem goesW_ok (hnode : ∀ y ∈ s, Corr s y ∧ GoodR y.1 ∧ y.1 ≠ []) : ∀ (f n : Nat) (d : Int) (st : List Int) (y : List Str × List Ed), s[n]? = some y → 0 ≤ d → d + dpL y.1 ≤ 12 → 13 ≤ d + f → st.length = s.length →
    (∀ (m : Nat) (z : List Str × List Ed), st[m]? = some 1 → s[m]? = some z → dpL y.1 < dpL z.1) →
    (goesW (gnOf s) (f + 1) n d st).1 = true ∧ ∀ m : Nat, (goesW (gnOf s) (f + 1) n d st).2[m]? = some 1 → st[m]? = some 1 := by
  intro f
  induction f with
  | zero => intro n d st y hn h0 h1 h2 _ _; omega
  | succ f ih =>
    intro n d st y hn h0 h1 h2 hl hu
    obtain ⟨hc, hg, hne⟩ := hnode y (List.mem_of_getElem? hn)
    have hlt := (List.getElem?_eq_some_iff.1 hn).1
    obtain ⟨v, hv⟩ : ∃ v, st[n]? = some v := ⟨_, List.getElem?_eq_getElem (by omega)⟩
    by_cases hv2 : v = 2
    · rw [goesW_done (gnOf_get' hn) hv hv2]
      exact ⟨rfl, fun m h => h⟩
    · have hno : ¬ (v = 1 ∨ d > 12 ∨ ((finB y.1, y.2).1 = false ∧ (finB y.1, y.2).2 = [])) := by
        rintro (h | h | ⟨h3, h4⟩)
        · subst h
          have := hu n y hv hn
          omega
        · omega
        · apply hne
          simp only at h3 h4
          have hgr : groups (dropE y.1) = [] := List.eq_nil_of_length_eq_zero (by rw [(All2.get hc).1, h4]; rfl)
          have := rests_all (x := y) hg
          rw [h3, hgr] at this
          simpa using this
      have key := eachW_all (g := fun st e => goesW (gnOf s) (f + 1) e.to.toNat (d + 1) st) (Inv := fun st' => st'.length = s.length ∧ ∀ m : Nat, st'[m]? = some 1 → st[m]? = some 1 ∨ m = n) y.2 (st.set n 1) ⟨by rw [List.length_set]; exact hl, fun m h => by
          rw [List.getElem?_set] at h
          split at h
          · right; omega
          · left; exact h⟩ (fun e he st' ⟨hl', hu'⟩ => by
        obtain ⟨g, hgm, h3, j, es, h4, h5⟩ := all2_ind hc e he
        have hdp := dpL_group hg hgm
        have hj : e.to.toNat = j := by omega
        have := ih j (d + 1) st' (g.2, es) h5 (by omega) (by simp only; omega) (by omega) hl' (fun m z hm hz => by
          rcases hu' m hm with h | h
          · have := hu m z h hz; simp only; omega
          · subst h
            obtain rfl : y = z := Option.some.inj (hn.symm.trans hz)
            simp only; omega)
        simp only [hj]
        refine ⟨this.1, by rw [goesW_len]; exact hl', fun m hm => hu' m (this.2 m hm)⟩)
      obtain ⟨k1, k2, k3⟩ := key
      rw [goesW_go (gnOf_get' hn) hv hv2 hno rfl]
      simp only
      rw [if_pos k1]
      refine ⟨rfl, fun m hm => ?_⟩
      simp only at hm
      rw [List.getElem?_set] at hm
      split at hm
      · split at hm
        · simp at hm
        · cases hm
      · rename_i hne'
        rcases k3 m hm with h | h
        · exact h
        · omega
/-- from a node on the words come that are its rests -/
theorem foldS_all {a : Str} {d : Int} {f : Nat} (hih : ∀ (n : Nat) (a : Str) (l : List Str) (y : List Str × List Ed), s[n]? = some y → d + 1 + dpL y.1 ≤ 12 → l.length + y.1.length ≤ 60 → goesS (gnOf s) f n a (d + 1) (l, true) = (l ++ y.1.map (a ++ ·), true)) :
    ∀ {gs : List (Nat × List Str)} {es : List Ed}, All2 (fun g e => e.rune = (g.1 : Int) ∧ ∃ (j : Nat) (es : List Ed), e.to = (j : Int) ∧ s[j]? = some (g.2, es)) gs es → (∀ g ∈ gs, goodN g.1 ∧ d + 1 + dpL g.2 ≤ 12) → ∀ l : List Str, l.length + (gs.flatMap fun g => g.2.map (encL g.1 ++ ·)).length ≤ 60 →
      es.foldl (fun s' e => goesS (gnOf s) f e.to.toNat (a ++ encR e.rune) (d + 1) s') (l, true) = (l ++ (gs.flatMap fun g => g.2.map (encL g.1 ++ ·)).map (a ++ ·), true) := by
  intro gs es h
  induction h with
  | nil => intro _ l _; simp
  | @cons g e gs es hge hr ih2 =>
    intro hg l hl
    obtain ⟨h1, j, es', h2, h3⟩ := hge
    obtain ⟨k1, k2⟩ := hg g (by simp)
    rw [List.flatMap_cons, List.length_append, List.length_map] at hl
    rw [List.foldl_cons, show e.to.toNat = j from by omega, h1, encR_L k1, hih j _ l (g.2, es') h3 k2 (by simp only; omega), ih2 (fun g' hg' => hg g' (by simp [hg'])) _ (by simp only [List.length_append, List.length_map]; omega)]
    rw [List.flatMap_cons, List.map_append, List.map_map, List.append_assoc]
    congr 3
    apply List.map_congr_left
    intro t _
    simp
theorem goesS_ok (hnode : ∀ y ∈ s, Corr s y ∧ GoodR y.1) : ∀ (f n : Nat) (a : Str) (d : Int) (l : List Str) (y : List Str × List Ed), s[n]? = some y → 0 ≤ d → d + dpL y.1 ≤ 12 → 13 ≤ d + f → l.length + y.1.length ≤ 60 → goesS (gnOf s) (f + 1) n a d (l, true) = (l ++ y.1.map (a ++ ·), true) := by
  intro f
  induction f with
  | zero => intro n a d l y hn h0 h1 h2 _; omega
  | succ f ih =>
    intro n a d l y hn h0 h1 h2 hl
    obtain ⟨hc, hg⟩ := hnode y (List.mem_of_getElem? hn)
    have hall := rests_all (x := y) hg
    refine goesS_go (by rintro (h | h | h); cases h; omega; omega) (gnOf_get' hn) rfl ?_
    simp only
    have hlen := congrArg List.length hall
    rw [List.length_append] at hlen
    have key := fun l0 hl0 => foldS_all (s := s) (a := a) (d := d) (f := f + 1) (fun n a l y hn hd hl => ih n a (d + 1) l y hn (by omega) hd (by omega) hl) hc (fun g hgm => ⟨(mem_group hg hgm).1, by have := dpL_group hg hgm; omega⟩) l0 hl0
    cases hf : finB y.1 with
    | true =>
      rw [hf, if_pos rfl] at hall
      rw [hf, if_pos rfl] at hlen
      rw [if_pos rfl, key _ (by simp only [List.length_append, List.length_cons, List.length_nil] at hlen ⊢; omega)]
      conv => rhs; rw [hall]
      simp
    | false =>
      rw [hf, if_neg (by decide)] at hall
      rw [hf, if_neg (by decide)] at hlen
      rw [if_neg (by decide), key _ (by simp only [List.length_nil] at hlen ⊢; omega)]
      conv => rhs; rw [hall]
      simp
end
/-- a graph of words is the one that is made of its nodes -/
theorem made_self {words : List Str} (h : goodL words = 0) : madeM (gnodes words) = some words := by
  by_cases hw : words = []
  · subst hw
    rw [gnodes_nil rfl]
    have hs : someM [(false, [])] = ([], true) := by decide
    unfold madeM
    rw [hs]
    rw [if_pos ⟨by decide, by decide, by decide, by decide, rfl, by decide, gnodes_nil rfl⟩]
  · have hgd := good_deep h
    have hok := graphM_ok hgd.2 hgd.1 hw
    have hB : graphB words = graphM words := by unfold graphB; rw [if_neg hw]
    have hN := gnodes_yes h
    rw [hB] at hN
    obtain ⟨es0, h0⟩ := hok.root
    have hdw := dpL_le hgd.2
    have hsz := gnodes_len h
    have hsm : someM (gnodes words) = (words, true) := by
      have := goesS_ok (s := graphM words) (fun y hy => ⟨(hok.node y hy).corr, (hok.node y hy).good⟩) 13 0 [] 0 [] (words, es0) h0 (by omega) (by simp only; omega) (by omega) (by have := (good_words h).1; simp only [List.length_nil]; omega)
      unfold someM
      rw [hN, this]
      have h60 := (good_words h).1
      simp; exact h60
    unfold madeM
    rw [hsm]
    refine if_pos ⟨?_, by omega, gnodes_721 h, ?_, rfl, h, rfl⟩
    · rw [rightE_iff]
      intro x hx e he
      rw [hN] at hx
      obtain ⟨y, hy, rfl⟩ := List.mem_map.1 hx
      obtain ⟨g, hgm, h3, j, es, h4, h5⟩ := all2_ind (hok.node y hy).corr e he
      have hj := (List.getElem?_eq_some_iff.1 h5).1
      have hdp := dpL_group (hok.node y hy).good hgm
      have hdy := graph_dp h y hy
      rw [hN, gnOf_len]
      refine ⟨?_, by omega⟩
      rcases Nat.eq_zero_or_pos j with hz | hz
      · subst hz
        have : g.2 = words := congrArg Prod.fst (Option.some.inj (h5.symm.trans h0))
        rw [this] at hdp; omega
      · omega
    · unfold wholeM
      have := goesW_ok (s := graphM words) (fun y hy => ⟨(hok.node y hy).corr, (hok.node y hy).good, (hok.node y hy).ne⟩) 13 0 0 (List.replicate (gnodes words).length 0) (words, es0) h0 (by omega) (by simp only; omega) (by omega) (by rw [List.length_replicate, hN, gnOf_len]) (fun m z hm _ => by
        rw [List.getElem?_replicate] at hm
        split at hm <;> simp at hm)
      rw [Bool.or_eq_true]
      right
      rw [hN] at this ⊢
      exact this.1
theorem madeG_self {words : List Str} (h : goodL words = 0) : madeG (gnodes words) = gnodes words := by unfold madeG; rw [made_self h]
theorem gnodes_ok {words : List Str} (h : goodL words = 0) : ∀ x ∈ gnodes words, gnOk x := by
  have hsz := (gnodes_len h).2
  intro x hx
  refine ⟨by have := gnodes_edges h x hx; omega, fun e he => ?_⟩
  have hok := gok_of h
  rw [gnodes_yes h] at hx hsz
  rw [gnOf_len] at hsz
  obtain ⟨y, hy, rfl⟩ := List.mem_map.1 hx
  obtain ⟨g, hgm, h3, j, es, h4, h5⟩ := all2_ind (hok.node y hy).1 e he
  have hj := (List.getElem?_eq_some_iff.1 h5).1
  have hgn := (mem_group (hok.node y hy).2.1 hgm).1
  unfold goodN at hgn
  exact ⟨by omega, by omega, by omega, by omega⟩
/-- an image of words is read as their graph -/
theorem dec_img {words : List Str} (h : goodL words = 0) : decG (imgM words) = (gnodes words, 0) := by
  rw [← enc_img h, dec_body (by have := (gnodes_len h).2; omega) (gnodes_ok h) (by rw [madeG_self h]; exact gnodes_nn h), madeG_self h]
end Go.Ml
