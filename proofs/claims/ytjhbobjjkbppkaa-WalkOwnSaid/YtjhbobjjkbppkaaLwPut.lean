/-
  Plain law of chapter 8: words that have a beginning more.
-/
import Derived.Test.YtjhbobjjkbppkaaLwLeast
set_option linter.unusedVariables false
set_option linter.unusedSimpArgs false
namespace Go.Ml
open Go.Ik

/-! names alone -/
def nmM : Nat → List (List Str) → List Str → List (List Str)
  | 0, ns, _ => ns
  | f + 1, ns, r => if r ∈ ns then ns else (groups (dropE r)).foldl (fun a g => nmM f a g.2) (ns ++ [r])
theorem nm_succ (f : Nat) (ns : List (List Str)) (r : List Str) : nmM (f + 1) ns r = if r ∈ ns then ns else (groups (dropE r)).foldl (fun a g => nmM f a g.2) (ns ++ [r]) := rfl
theorem edges_names {add : GS → List Str → GS × Nat} {nm : List (List Str) → List Str → List (List Str)} (h : ∀ s r, names (add s r).1 = nm (names s) r) : ∀ (gs : List (Nat × List Str)) (s : GS), names (edgesM add s gs).1 = gs.foldl (fun a g => nm a g.2) (names s)
  | [], s => rfl
  | g :: gs, s => by
    show names (edgesM add (add s g.2).1 gs).1 = _
    rw [edges_names h gs, h, List.foldl_cons]
theorem add_names : ∀ (f : Nat) (s : GS) (r : List Str), names (addM f s r).1 = nmM f (names s) r
  | 0, s, r => rfl
  | f + 1, s, r => by
    unfold addM nmM
    cases hi : s.findIdx? fun x => x.1 == r with
    | some i =>
      obtain ⟨es, he⟩ := findIdx_some hi
      rw [if_pos]
      unfold names
      exact List.mem_map.2 ⟨_, List.mem_of_getElem? he, rfl⟩
    | none =>
      rw [if_neg (findIdx_none hi)]
      have h := edges_names (add_names f) (groups (dropE r)) (s ++ [(r, [])])
      have h2 : names (s ++ [(r, [])]) = names s ++ [r] := by simp [names]
      rw [h2] at h
      rw [← h]
      cases hx : (edgesM (addM f) (s ++ [(r, [])]) (groups (dropE r))).1[s.length]? with
      | none =>
        simp only
        rw [List.set_eq_of_length_le (by have := List.getElem?_eq_none_iff.1 hx; omega)]
      | some y =>
        have hy : y.1 = r := by
          have h3 : (names (edgesM (addM f) (s ++ [(r, [])]) (groups (dropE r))).1)[s.length]? = some y.1 := by unfold names; rw [List.getElem?_map, hx]; rfl
          rw [h] at h3
          have h4 : ∀ (gs : List (Nat × List Str)) (ns : List (List Str)) (k : Nat) (z : List Str), ns[k]? = some z → (gs.foldl (fun a g => nmM f a g.2) ns)[k]? = some z := by
            intro gs
            induction gs with
            | nil => intro ns k z h; exact h
            | cons g gs ih => intro ns k z h; rw [List.foldl_cons]; exact ih _ _ _ (nm_keep f ns g.2 k z h)
          have h5 := h4 (groups (dropE r)) (names s ++ [r]) s.length r (by unfold names; simp)
          rw [h5] at h3
          simpa using h3.symm
        obtain ⟨y1, y2⟩ := y
        simp only at hy
        subst hy
        exact names_set hx
where
  nm_keep : ∀ (f : Nat) (ns : List (List Str)) (r : List Str) (k : Nat) (z : List Str), ns[k]? = some z → (nmM f ns r)[k]? = some z
    | 0, ns, r, k, z, h => h
    | f + 1, ns, r, k, z, h => by
      unfold nmM
      split
      · exact h
      · have h4 : ∀ (gs : List (Nat × List Str)) (ns : List (List Str)), ns[k]? = some z → (gs.foldl (fun a g => nmM f a g.2) ns)[k]? = some z := by
          intro gs
          induction gs with
          | nil => intro ns h; exact h
          | cons g gs ih => intro ns h; rw [List.foldl_cons]; exact ih _ (nm_keep f ns g.2 k z h)
        exact h4 _ _ (by rw [List.getElem?_append_left (List.getElem?_eq_some_iff.1 h).1]; exact h)
theorem deep_mono {l : List Str} {d e : Nat} (h : Deep d l) (hde : d ≤ e) : Deep e l := fun t ht => Nat.le_trans (h t ht) hde
theorem groups_good {r : List Str} (hg : GoodR r) {g : Nat × List Str} (h : g ∈ groups (dropE r)) : GoodR g.2 := by
  have hd := dropE_good hg
  exact ((groups_ok _ _ (Nat.le_refl _) hd.1 hd.2).good g h).2.2
theorem groups_deep {r : List Str} (hg : GoodR r) {d : Nat} (hd : Deep d r) {g : Nat × List Str} (h : g ∈ groups (dropE r)) : ∃ e, d = e + 1 ∧ Deep e g.2 := by
  obtain ⟨k, hk⟩ := List.mem_iff_getElem?.1 h
  exact deep_edge hg hd hk
/-- names that are too deep to be met -/
theorem nm_shift {D : Nat} {A : List (List Str)} (hA : ∀ a ∈ A, ¬ Deep D a) : ∀ (f : Nat) (B : List (List Str)) (r : List Str), GoodR r → Deep D r → nmM f (A ++ B) r = A ++ nmM f B r
  | 0, B, r, _, _ => rfl
  | f + 1, B, r, hg, hd => by
    unfold nmM
    have hr : r ∉ A := fun h => hA r h hd
    by_cases hB : r ∈ B
    · rw [if_pos (by simp [hB]), if_pos hB]
    · rw [if_neg (by simp [hB, hr]), if_neg hB]
      have key : ∀ (gs : List (Nat × List Str)) (B : List (List Str)), (∀ g ∈ gs, g ∈ groups (dropE r)) → gs.foldl (fun a g => nmM f a g.2) (A ++ B) = A ++ gs.foldl (fun a g => nmM f a g.2) B := by
        intro gs
        induction gs with
        | nil => intro B _; rfl
        | cons g gs ih =>
          intro B h
          have hgm := h g (by simp)
          obtain ⟨e, he, hde⟩ := groups_deep hg hd hgm
          rw [List.foldl_cons, List.foldl_cons, nm_shift hA f B g.2 (groups_good hg hgm) (deep_mono hde (by omega))]
          exact ih _ fun g' hg' => h g' (by simp [hg'])
      rw [List.append_assoc]
      exact key _ _ fun g h => h
theorem nm_fuel : ∀ (f f' d : Nat) (ns : List (List Str)) (r : List Str), GoodR r → Deep d r → d < f → d < f' → nmM f ns r = nmM f' ns r
  | 0, _, d, _, _, _, _, h, _ => by omega
  | _, 0, d, _, _, _, _, _, h => by omega
  | f + 1, f' + 1, d, ns, r, hg, hd, h1, h2 => by
    unfold nmM
    split
    · rfl
    · have key : ∀ (gs : List (Nat × List Str)) (B : List (List Str)), (∀ g ∈ gs, g ∈ groups (dropE r)) → gs.foldl (fun a g => nmM f a g.2) B = gs.foldl (fun a g => nmM f' a g.2) B := by
        intro gs
        induction gs with
        | nil => intro B _; rfl
        | cons g gs ih =>
          intro B h
          have hgm := h g (by simp)
          obtain ⟨e, he, hde⟩ := groups_deep hg hd hgm
          rw [List.foldl_cons, List.foldl_cons, nm_fuel f f' e B g.2 (groups_good hg hgm) hde (by omega) (by omega)]
          exact ih _ fun g' hg' => h g' (by simp [hg'])
      exact key _ _ fun g h => h
/-! words with a beginning -/
def putW (p : Str) (l : List Str) : List Str := l.map (p ++ ·)
theorem putW_good {p : Str} (hp : Fine p) {l : List Str} (h : GoodR l) : GoodR (putW p l) := by
  refine ⟨?_, fun t ht => ?_⟩
  · unfold putW Sorted
    rw [List.pairwise_map]
    exact h.sorted.imp fun hab => by unfold ltT at hab ⊢; rw [cmp_app]; exact hab
  · obtain ⟨u, hu, rfl⟩ := List.mem_map.1 ht
    obtain ⟨h1, h2⟩ := encT_runes p hp
    have : ∀ (rs : List Nat), (∀ c ∈ rs, goodN c) → Fine (encT rs ++ u) := by
      intro rs
      induction rs with
      | nil => intro _; simpa [encT] using h.fine u hu
      | cons c rs ih =>
        intro hg
        rw [encT_cons, List.append_assoc]
        exact fine_enc (hg c (by simp)) (ih fun d hd => hg d (by simp [hd]))
    rw [← h1]
    exact this _ h2
where
  fine_enc {c : Nat} (hc : goodN c) {t : Str} (ht : Fine t) : Fine (encL c ++ t) := by
    unfold Fine at ht ⊢
    rw [runes_app hc]
    intro hm
    rcases List.mem_cons.1 hm with h | h
    · exact hc.2.2 h.symm
    · exact ht h
theorem runes_put : ∀ (rs : List Nat) (t : Str), (∀ c ∈ rs, goodN c) → runes (encT rs ++ t) = rs ++ runes t
  | [], t, _ => by simp [encT]
  | c :: rs, t, h => by
    rw [encT_cons, List.append_assoc, runes_app (h c (by simp)), runes_put rs t fun d hd => h d (by simp [hd])]
    rfl
theorem groups_all {c : Nat} (hc : goodN c) {l : List Str} (hl : l ≠ []) : groups (l.map (encL c ++ ·)) = [(c, l)] := by
  cases l with
  | nil => exact absurd rfl hl
  | cons t r =>
    obtain ⟨h1, h2⟩ := dec_encL hc t
    rw [List.map_cons, groups_cons, h1, h2]
    have hall : ∀ x ∈ (encL c ++ t) :: r.map (encL c ++ ·), (encL c).isPrefixOf x = true := by
      intro x hx
      rw [← List.map_cons (f := (encL c ++ ·))] at hx
      obtain ⟨u, _, rfl⟩ := List.mem_map.1 hx
      exact isPrefix_app _ _
    have hw := takeWhile_take (p := fun t => (encL c).isPrefixOf t) (l := (encL c ++ t) :: r.map (encL c ++ ·)) (k := (r.map (encL c ++ ·)).length + 1) (fun x hx => hall x (List.mem_of_mem_take hx)) (fun x hx => by
      rw [List.getElem?_eq_none (by simp)] at hx; cases hx)
    have hs : stripP (encL c) ((encL c ++ t) :: r.map (encL c ++ ·)) = t :: r := by
      unfold stripP
      rw [hw.1, List.take_of_length_le (by simp)]
      simp [Function.comp_def]
    have hm : moreP (encL c) ((encL c ++ t) :: r.map (encL c ++ ·)) = [] := by
      unfold moreP
      rw [hw.2, List.drop_of_length_le (by simp)]
    rw [hs, hm, groups_nil]
theorem nm_put {D : Nat} {l : List Str} (hg : GoodR l) (hd : Deep D l) (hx : ∃ w ∈ l, (runes w).length = D) : ∀ (ps : List Nat) (f : Nat) (ns : List (List Str)), (∀ c ∈ ps, goodN c) → (∀ a ∈ ns, ¬ Deep (D + ps.length) a) →
    (nmM (f + ps.length) ns (putW (encT ps) l)).length = ns.length + ps.length + (nmM f [] l).length
  | [], f, ns, _, hn => by
    have : putW (encT []) l = l := by simp [putW, encT]
    rw [this]
    have := nm_shift hn f [] l hg (by simpa using hd)
    rw [List.append_nil] at this
    simp only [List.length_nil, Nat.add_zero] at this ⊢
    rw [this, List.length_append]
  | c :: cs, f, ns, hc, hn => by
    have hcg := hc c (by simp)
    have hcs : ∀ d ∈ cs, goodN d := fun d hd => hc d (by simp [hd])
    have hlen : ∀ w ∈ l, (runes (encT (c :: cs) ++ w)).length = cs.length + 1 + (runes w).length := by
      intro w hw
      rw [runes_put _ _ hc, List.length_append, List.length_cons]
    have hdeep : Deep (D + (c :: cs).length) (putW (encT (c :: cs)) l) := by
      intro t ht
      obtain ⟨w, hw, rfl⟩ := List.mem_map.1 ht
      rw [hlen w hw, List.length_cons]
      have := hd w hw; omega
    have hno : putW (encT (c :: cs)) l ∉ ns := fun h => hn _ h hdeep
    have hlne : l ≠ [] := by obtain ⟨w, hw, _⟩ := hx; intro e; rw [e] at hw; simp at hw
    have he : putW (encT (c :: cs)) l = (putW (encT cs) l).map (encL c ++ ·) := by
      unfold putW
      rw [List.map_map]
      refine List.map_congr_left fun w _ => ?_
      simp [encT_cons]
    have hdr : dropE (putW (encT (c :: cs)) l) = putW (encT (c :: cs)) l := by
      cases hl : l with
      | nil => exact absurd hl hlne
      | cons a r =>
        show dropE ((encT (c :: cs) ++ a) :: _) = _
        have : encT (c :: cs) ++ a ≠ [] := by
          intro e
          have := hlen a (by rw [hl]; simp)
          rw [e, runes_nil] at this; simp at this
          omega
        exact (dropE_cons (l := (encT (c :: cs) ++ a) :: r.map (encT (c :: cs) ++ ·)) rfl this).1
    have hgr : groups (dropE (putW (encT (c :: cs)) l)) = [(c, putW (encT cs) l)] := by
      rw [hdr, he]
      exact groups_all hcg (by unfold putW; simpa using hlne)
    rw [show f + (c :: cs).length = (f + cs.length) + 1 from by simp only [List.length_cons]; omega]
    rw [nm_succ, if_neg hno, hgr]
    simp only [List.foldl_cons, List.foldl_nil]
    rw [nm_put hg hd hx cs f (ns ++ [putW (encT (c :: cs)) l]) hcs ?_]
    · simp only [List.length_append, List.length_cons, List.length_nil]; omega
    · intro a ha
      rcases List.mem_append.1 ha with ha | ha
      · exact fun h => hn a ha (deep_mono h (by simp only [List.length_cons]; omega))
      · simp only [List.mem_singleton] at ha
        subst ha
        intro h
        obtain ⟨w, hw, hwd⟩ := hx
        have h1 := h _ (List.mem_map.2 ⟨w, hw, rfl⟩)
        have h2 := hlen w hw
        have h1' : (runes (encT (c :: cs) ++ w)).length ≤ D + cs.length := h1
        rw [h2] at h1'
        omega
theorem deepest : ∀ (l : List Str), l ≠ [] → ∃ D, Deep D l ∧ ∃ w ∈ l, (runes w).length = D
  | [], h => absurd rfl h
  | [w], _ => ⟨_, fun t ht => by simp only [List.mem_singleton] at ht; subst ht; exact Nat.le_refl _, w, by simp, rfl⟩
  | w :: v :: r, _ => by
    obtain ⟨D, h1, u, h2, h3⟩ := deepest (v :: r) (by simp)
    by_cases h : (runes w).length ≤ D
    · exact ⟨D, fun t ht => by
        rcases List.mem_cons.1 ht with rfl | ht
        · exact h
        · exact h1 t ht, u, by simp [h2] , h3⟩
    · refine ⟨(runes w).length, fun t ht => ?_, w, by simp, rfl⟩
      rcases List.mem_cons.1 ht with rfl | ht
      · exact Nat.le_refl _
      · have := h1 t ht; omega
theorem sorted_goodL {l : List Str} (hs : Sorted l) (hw : ∀ w ∈ l, word w = true) (hl : l.length ≤ 60) : goodL l = 0 := by
  unfold goodL
  rw [if_neg (by omega), if_pos (List.all_eq_true.2 hw), if_pos (sorted_rising hs)]
/-- the law, plainly -/
theorem put_law {l : List Str} {p : Str} (hg : goodL l = 0) (hne : l ≠ []) (hp : 0 ≤ lenT p) (hs : ∀ w ∈ l, lenT w + lenT p ≤ 12) :
    goodL (putW p l) = 0 ∧ (((gnodes (putW p l)).length : Nat) : Int) = ((gnodes l).length : Int) + lenT p := by
  have hfp : Fine p := by
    intro hm
    unfold lenT at hp; rw [if_pos hm] at hp; omega
  have hlp := lenT_fine hfp
  obtain ⟨hgr, hdp⟩ := good_deep hg
  obtain ⟨hpe, hpg⟩ := encT_runes p hfp
  obtain ⟨hl60, hword, hsort⟩ := good_words hg
  have hgp := putW_good hfp hgr
  have hwl : ∀ w ∈ l, lenT (p ++ w) = lenT p + lenT w := by
    intro w hw
    have hf := hgp.fine (p ++ w) (List.mem_map.2 ⟨w, hw, rfl⟩)
    have hfw := hgr.fine w hw
    rw [lenT_fine hf, lenT_fine hfw, hlp]
    have := runes_put (runes p) w hpg
    rw [hpe] at this
    rw [this, List.length_append]; omega
  have hgood : goodL (putW p l) = 0 := by
    refine sorted_goodL hgp.sorted (fun t ht => ?_) (by unfold putW; rw [List.length_map]; exact hl60)
    obtain ⟨w, hw, rfl⟩ := List.mem_map.1 ht
    have h1 := hword w hw
    unfold word at h1 ⊢
    simp only [Bool.and_eq_true, decide_eq_true_eq] at h1 ⊢
    have h2 := hs w hw
    have h3 := hwl w hw
    rw [h3]
    omega
  refine ⟨hgood, ?_⟩
  have hpne : putW p l ≠ [] := by unfold putW; simpa using hne
  have e1 : (gnodes (putW p l)).length = (nmM 13 [] (putW p l)).length := by
    rw [gnodes_yes hgood, gnOf_len]
    unfold graphB graphM
    rw [if_neg hpne, ← List.length_map (f := Prod.fst)]
    exact congrArg List.length (add_names 13 [] (putW p l))
  have e2 : (gnodes l).length = (nmM 13 [] l).length := by
    rw [gnodes_yes hg, gnOf_len]
    unfold graphB graphM
    rw [if_neg hne, ← List.length_map (f := Prod.fst)]
    exact congrArg List.length (add_names 13 [] l)
  obtain ⟨D, hD, w, hw, hwD⟩ := deepest l hne
  have hDp : D + (runes p).length ≤ 12 := by
    have := hs w hw
    rw [lenT_fine (hgr.fine w hw), hlp, hwD] at this
    omega
  have hput := nm_put hgr hD ⟨w, hw, hwD⟩ (runes p) (13 - (runes p).length) [] hpg (by simp)
  rw [hpe, show 13 - (runes p).length + (runes p).length = 13 from by omega] at hput
  rw [e1, e2, hput, nm_fuel (13 - (runes p).length) 13 D [] l hgr hD (by omega) (by omega), hlp]
  simp only [List.length_nil]; omega
theorem sorted_good {words : List Str} (h : (sortedM words).length ≤ 60) : goodL (sortedM words) = 0 :=
  sorted_goodL (sortedM_spec words).1 (fun w hw => by
    obtain ⟨k, hk⟩ := List.mem_iff_getElem?.1 hw
    exact sortedM_word hk) h
theorem put_take {l : List Str} {p : Str} {i : Nat} {x : Str} {a : List Str} (ha : a = putW p (l.take i)) (hx : l[i]? = some x) : a ++ [p ++ x] = putW p (l.take (i + 1)) := by
  rw [ha]; unfold putW
  rw [List.take_add_one, hx]; simp
theorem put_bound {l : List Str} {p : Str} {i : Nat} {x : Str} (h : ∀ w ∈ l.take i, lenT w + lenT p ≤ 12) (hx : l[i]? = some x) (hc : ¬ lenT x + lenT p > 12) : ∀ w ∈ l.take (i + 1), lenT w + lenT p ≤ 12 := by
  intro w hw
  rw [List.take_add_one, hx] at hw
  simp only [Option.toList_some, List.mem_append, List.mem_singleton] at hw
  rcases hw with hw | rfl
  · exact h w hw
  · omega
end Go.Ml
