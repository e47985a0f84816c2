/-
  Chapter 8: graphs of words; nodes are sets of rests; no program in sight.
-/
import Derived.Test.YtajedfbogchkcaaPlRune
import Derived.Test.YtajedfbogchkcaaPlOrd
set_option linter.unusedVariables false
set_option linter.unusedSimpArgs false
namespace Go.Ml
open Go.Ik

structure Ed where
  rune : Int
  to : Int
  deriving DecidableEq, Repr
def encE (x : Ed) : List Value := [.int .i32 x.rune, .int .i64 x.to]
theorem encE_len (x : Ed) : (encE x).length = 2 := rfl
theorem encE_one (x : Ed) : (encE x).all (·.oneCell') = true := rfl

/-! rests by their first runes -/
def hdN (s : Str) : Nat := (dec s).1
def wdN (s : Str) : Nat := (dec s).2
def pfx (s : Str) : Str := s.take (dec s).2
def stripP (p : Str) (l : List Str) : List Str := (l.takeWhile fun t => p.isPrefixOf t).map fun t => t.drop p.length
def moreP (p : Str) (l : List Str) : List Str := l.dropWhile fun t => p.isPrefixOf t
def groupsF : Nat → List Str → List (Nat × List Str)
  | 0, _ => []
  | _ + 1, [] => []
  | n + 1, s :: r => (hdN s, stripP (pfx s) (s :: r)) :: groupsF n (moreP (pfx s) (s :: r))
def groups (l : List Str) : List (Nat × List Str) := groupsF l.length l
theorem pfx_is (s : Str) : (pfx s).isPrefixOf s = true := by
  rw [List.isPrefixOf_iff_prefix]; exact List.take_prefix _ _
theorem more_len (s : Str) (r : List Str) : (moreP (pfx s) (s :: r)).length ≤ r.length := by
  unfold moreP
  rw [List.dropWhile_cons, if_pos (pfx_is s)]
  exact (List.dropWhile_suffix _).length_le
theorem groupsF_enough : ∀ (n m : Nat) (l : List Str), l.length ≤ n → l.length ≤ m → groupsF n l = groupsF m l
  | 0, 0, _, _, _ => rfl
  | 0, m + 1, l, h, _ => by have : l = [] := List.eq_nil_of_length_eq_zero (by omega); subst this; rfl
  | n + 1, 0, l, _, h => by have : l = [] := List.eq_nil_of_length_eq_zero (by omega); subst this; rfl
  | n + 1, m + 1, [], _, _ => rfl
  | n + 1, m + 1, s :: r, h1, h2 => by
    have := more_len s r
    simp only [List.length_cons] at h1 h2
    simp only [groupsF]
    rw [groupsF_enough n m _ (by omega) (by omega)]
theorem groups_nil : groups [] = [] := rfl
theorem groups_cons (s : Str) (r : List Str) : groups (s :: r) = (hdN s, stripP (pfx s) (s :: r)) :: groups (moreP (pfx s) (s :: r)) := by
  have := more_len s r
  show groupsF (r.length + 1) (s :: r) = _
  simp only [groupsF]
  rw [groupsF_enough r.length _ _ this (Nat.le_refl _)]
  rfl

/-! the order of texts and their beginnings -/
theorem cmp_cons (a b : UInt8) (s t : Str) : Lib.compareBytes (a :: s) (b :: t) = if a < b then -1 else if b < a then 1 else Lib.compareBytes s t := rfl
theorem cmp_app (p s t : Str) : Lib.compareBytes (p ++ s) (p ++ t) = Lib.compareBytes s t := by
  induction p with
  | nil => rfl
  | cons a p ih => simp only [List.cons_append, cmp_cons]; rw [if_neg (by simp), if_neg (by simp), ih]
/-- what stands between two that begin alike begins so too -/
theorem between : ∀ (p a b u : Str), Lib.compareBytes (p ++ a) u < 0 → Lib.compareBytes u (p ++ b) < 0 → p.isPrefixOf u = true
  | [], _, _, _, _, _ => rfl
  | x :: p, a, b, [], h, _ => by simp [Lib.compareBytes] at h
  | x :: p, a, b, y :: u, h1, h2 => by
    simp only [List.cons_append, cmp_cons] at h1 h2
    by_cases hxy : x < y
    · have : ¬ y < x := UInt8.lt_asymm hxy
      rw [if_neg this, if_pos hxy] at h2; omega
    · rw [if_neg hxy] at h1
      by_cases hyx : y < x
      · rw [if_pos hyx] at h1; omega
      · have e : x = y := UInt8.le_antisymm (UInt8.not_lt.1 hyx) (UInt8.not_lt.1 hxy)
        subst e
        rw [if_neg hyx] at h1
        rw [if_neg hyx, if_neg hyx] at h2
        simp only [List.isPrefixOf, beq_self_eq_true, Bool.true_and]
        exact between p a b u h1 h2

/-- rests that may be: in order, made well -/
structure GoodR (l : List Str) : Prop where
  sorted : Sorted l
  fine : ∀ s ∈ l, Fine s
theorem GoodR.tail {s : Str} {r : List Str} (h : GoodR (s :: r)) : GoodR r := ⟨(List.pairwise_cons.1 h.sorted).2, fun t ht => h.fine t (by simp [ht])⟩
theorem sorted_suffix {l m : List Str} (h : Sorted l) (hs : m <:+ l) : Sorted m := h.sublist hs.sublist
theorem GoodR.more {l : List Str} (h : GoodR l) (p : Str) : GoodR (moreP p l) :=
  ⟨sorted_suffix h.sorted (List.dropWhile_suffix _), fun t ht => h.fine t ((List.dropWhile_suffix _).subset ht)⟩
theorem mem_takeWhile {α : Type} {p : α → Bool} : ∀ {l : List α} {x : α}, x ∈ l.takeWhile p → p x = true ∧ x ∈ l
  | [], x, h => by simp at h
  | y :: l, x, h => by
    rw [List.takeWhile_cons] at h
    split at h
    · rename_i hy
      rcases List.mem_cons.1 h with rfl | h
      · exact ⟨hy, by simp⟩
      · exact ⟨(mem_takeWhile h).1, by simp [(mem_takeWhile h).2]⟩
    · simp at h
theorem prefix_drop {p t : Str} (h : p.isPrefixOf t = true) : t = p ++ t.drop p.length := by
  rw [List.isPrefixOf_iff_prefix] at h
  obtain ⟨u, rfl⟩ := h
  simp
theorem strip_mem {p : Str} {l : List Str} {t : Str} (h : t ∈ stripP p l) : p ++ t ∈ l := by
  unfold stripP at h
  obtain ⟨u, hu, rfl⟩ := List.mem_map.1 h
  have := mem_takeWhile hu
  rw [← prefix_drop this.1]; exact this.2
theorem strip_app (p : Str) (l : List Str) : (stripP p l).map (p ++ ·) ++ moreP p l = l := by
  unfold stripP moreP
  rw [List.map_map]
  have : (l.takeWhile fun t => p.isPrefixOf t).map ((p ++ ·) ∘ fun t => t.drop p.length) = l.takeWhile fun t => p.isPrefixOf t := by
    conv => rhs; rw [← List.map_id (l.takeWhile fun t => p.isPrefixOf t)]
    exact List.map_congr_left fun t ht => (prefix_drop (mem_takeWhile ht).1).symm
  rw [this, List.takeWhile_append_dropWhile]
/-- behind a beginning's group nothing begins so -/
theorem more_not {s : Str} {r : List Str} (h : GoodR (s :: r)) {p : Str} (hp : p.isPrefixOf s = true) : ∀ t ∈ moreP p (s :: r), p.isPrefixOf t = false := by
  intro t ht
  cases hb : p.isPrefixOf t with
  | false => rfl
  | true =>
    exfalso
    have hs : moreP p (s :: r) <:+ s :: r := List.dropWhile_suffix _
    cases hm : moreP p (s :: r) with
    | nil => rw [hm] at ht; simp at ht
    | cons u m =>
      have hu : p.isPrefixOf u = false := by
        have := List.head?_dropWhile_not (fun t => p.isPrefixOf t) (s :: r)
        unfold moreP at hm
        rw [hm] at this
        simpa using this
      rw [hm] at ht
      have hso := sorted_suffix h.sorted hs
      rw [hm] at hso
      have hus : u ≠ s := fun e => by rw [e, hp] at hu; cases hu
      have hum : u ∈ s :: r := hs.subset (by rw [hm]; simp)
      have h1 : ltT s u := by
        rcases List.mem_cons.1 hum with e | e
        · exact absurd e hus
        · exact (List.pairwise_cons.1 h.sorted).1 u e
      rcases List.mem_cons.1 ht with rfl | ht
      · rw [hb] at hu; cases hu
      · have h2 : ltT u t := (List.pairwise_cons.1 hso).1 t ht
        have e1 := prefix_drop hp
        have e2 := prefix_drop hb
        have := between p (s.drop p.length) (t.drop p.length) u (by rw [← e1]; exact h1) (by rw [← e2]; exact h2)
        rw [this] at hu; cases hu
theorem strip_good {s : Str} {r : List Str} (h : GoodR (s :: r)) (hs : s ≠ []) : GoodR (stripP (pfx s) (s :: r)) := by
  have hsp := (h.fine s (by simp)).split hs
  have hp : pfx s = encL (hdN s) := (enc_dec hs ((fine_cons hs).1 (h.fine s (by simp))).1).2.symm
  refine ⟨?_, fun t ht => ?_⟩
  · have : Sorted ((stripP (pfx s) (s :: r)).map (pfx s ++ ·)) := h.sorted.sublist (by
      conv => rhs; rw [← strip_app (pfx s) (s :: r)]
      exact List.sublist_append_left _ _)
    unfold Sorted at this ⊢
    rw [List.pairwise_map] at this
    exact this.imp fun {a b} hab => by unfold ltT at hab ⊢; rwa [cmp_app] at hab
  · have hm := h.fine _ (strip_mem ht)
    rw [hp] at hm
    have h2 := (fine_cons (by simp [encL_ne]) : Fine (encL (hdN s) ++ t) ↔ _).1 hm
    have e := dec_enc hsp.1 t
    unfold hdN at h2
    rw [e] at h2
    simpa using h2.2
/-- what groups are: all of them, in order, by runes that part -/
structure GroupsOk (l : List Str) (gs : List (Nat × List Str)) : Prop where
  all : gs.flatMap (fun g => g.2.map (encL g.1 ++ ·)) = l
  good : ∀ g ∈ gs, goodN g.1 ∧ g.2 ≠ [] ∧ GoodR g.2
  part : gs.Pairwise fun a b => a.1 ≠ b.1
theorem groups_ok : ∀ (n : Nat) (l : List Str), l.length ≤ n → GoodR l → (∀ s ∈ l, s ≠ []) → GroupsOk l (groups l)
  | _, [], _, _, _ => ⟨rfl, by simp [groups_nil], by simp [groups_nil]⟩
  | 0, s :: r, h, _, _ => by simp at h
  | n + 1, s :: r, hn, h, hne => by
    have hl := more_len s r
    simp only [List.length_cons] at hn
    have hs := hne s (by simp)
    have hf := h.fine s (by simp)
    have hsp := hf.split hs
    have hp : pfx s = encL (hdN s) := (enc_dec hs ((fine_cons hs).1 hf).1).2.symm
    have ih := groups_ok n (moreP (pfx s) (s :: r)) (by omega) (h.more _) (fun t ht => hne t ((List.dropWhile_suffix _).subset ht))
    rw [groups_cons]
    refine ⟨?_, ?_, ?_⟩
    · simp only [List.flatMap_cons]
      rw [ih.all, ← hp, strip_app]
    · intro g hg
      rcases List.mem_cons.1 hg with rfl | hg
      · refine ⟨hsp.1, ?_, strip_good h hs⟩
        unfold stripP
        rw [List.takeWhile_cons, if_pos (pfx_is s)]; simp
      · exact ih.good g hg
    · refine List.pairwise_cons.2 ⟨fun g hg e => ?_, ih.part⟩
      have hgg := ih.good g hg
      obtain ⟨t, ht⟩ : ∃ t, t ∈ g.2 := by
        cases hg2 : g.2 with
        | nil => exact absurd hg2 hgg.2.1
        | cons t _ => exact ⟨t, by simp⟩
      have hm : encL g.1 ++ t ∈ moreP (pfx s) (s :: r) := by
        rw [← ih.all]
        exact List.mem_flatMap.2 ⟨g, hg, List.mem_map.2 ⟨t, ht, rfl⟩⟩
      have := more_not h (pfx_is s) _ hm
      rw [hp, ← e] at this
      have hpre : (encL (hdN s)).isPrefixOf (encL (hdN s) ++ t) = true := by rw [List.isPrefixOf_iff_prefix]; exact List.prefix_append _ _
      simp only at this
      rw [hpre] at this; cases this

/-! the graph, added from a node on -/
abbrev GS := List (List Str × List Ed)
def dropE : List Str → List Str
  | [] :: r => r
  | l => l
def edgesM (add : GS → List Str → GS × Nat) : GS → List (Nat × List Str) → GS × List Ed
  | s, [] => (s, [])
  | s, g :: gs => ((edgesM add (add s g.2).1 gs).1, ⟨(g.1 : Int), ((add s g.2).2 : Int)⟩ :: (edgesM add (add s g.2).1 gs).2)
def addM : Nat → GS → List Str → GS × Nat
  | 0, s, _ => (s, 0)
  | f + 1, s, rests =>
    match s.findIdx? fun x => x.1 == rests with
    | some i => (s, i)
    | none => ((edgesM (addM f) (s ++ [(rests, [])]) (groups (dropE rests))).1.set s.length (rests, (edgesM (addM f) (s ++ [(rests, [])]) (groups (dropE rests))).2), s.length)
/-- the graph of words -/
def graphM (words : List Str) : GS := (addM 13 [] words).1

/-- a node's edges lead, rune by rune, to the nodes of its rests' groups -/
def Corr (s : GS) (x : List Str × List Ed) : Prop := All2 (fun g e => e.rune = (g.1 : Int) ∧ ∃ (j : Nat) (es : List Ed), e.to = (j : Int) ∧ s[j]? = some (g.2, es)) (groups (dropE x.1)) x.2
def Deep (n : Nat) (l : List Str) : Prop := ∀ t ∈ l, (runes t).length ≤ n
structure NodeOk (s : GS) (n : Nat) (x : List Str × List Ed) : Prop where
  corr : Corr s x
  good : GoodR x.1
  ne : x.1 ≠ []
  deep : Deep n x.1
def names (s : GS) : List (List Str) := s.map Prod.fst
theorem findIdx_some {s : GS} {r : List Str} {i : Nat} (h : (s.findIdx? fun x => x.1 == r) = some i) : ∃ es, s[i]? = some (r, es) := by
  obtain ⟨h1, h2, _⟩ := List.findIdx?_eq_some_iff_getElem.1 h
  refine ⟨s[i].2, ?_⟩
  rw [List.getElem?_eq_getElem h1]
  have : s[i].1 = r := by simpa using h2
  rw [← this]
theorem findIdx_none {s : GS} {r : List Str} (h : (s.findIdx? fun x => x.1 == r) = none) : r ∉ names s := by
  intro hm
  obtain ⟨x, hx, rfl⟩ := List.mem_map.1 hm
  have := List.findIdx?_eq_none_iff.1 h x hx
  simp at this
theorem dropE_good {l : List Str} (h : GoodR l) : GoodR (dropE l) ∧ (∀ s ∈ dropE l, s ≠ []) := by
  cases l with
  | nil => exact ⟨h, by simp [dropE]⟩
  | cons a r =>
    cases a with
    | nil =>
      refine ⟨h.tail, fun s hs e => ?_⟩
      have := (List.pairwise_cons.1 h.sorted).1 s hs
      subst e
      exact lt_irrefl _ this
    | cons x a =>
      refine ⟨h, fun s hs e => ?_⟩
      subst e
      rcases List.mem_cons.1 hs with e | hs
      · cases e
      · have := (List.pairwise_cons.1 h.sorted).1 _ hs
        simp [ltT, Lib.compareBytes] at this
theorem dropE_mem {l : List Str} {t : Str} (h : t ∈ dropE l) : t ∈ l := by
  cases l with
  | nil => exact h
  | cons a r =>
    cases a with
    | nil => exact List.mem_cons_of_mem _ h
    | cons x a => exact h
theorem deep_groups {n : Nat} {l : List Str} (hg : GoodR l) (h : Deep (n + 1) l) : ∀ g ∈ groups (dropE l), Deep n g.2 := by
  intro g hgm t ht
  have hd := dropE_good hg
  have ok := groups_ok _ _ (Nat.le_refl _) hd.1 hd.2
  have hm : encL g.1 ++ t ∈ dropE l := by
    rw [← ok.all]
    exact List.mem_flatMap.2 ⟨g, hgm, List.mem_map.2 ⟨t, ht, rfl⟩⟩
  have := h _ (dropE_mem hm)
  rw [runes_app (ok.good g hgm).1] at this
  simp only [List.length_cons] at this
  omega
theorem Corr.grow {s s' : GS} {x : List Str × List Ed} (h : Corr s x) (hs : ∀ (j : Nat) (r : List Str) (es : List Ed), s[j]? = some (r, es) → ∃ es', s'[j]? = some (r, es')) : Corr s' x :=
  All2.imp (fun g e ⟨h1, j, es, h2, h3⟩ => ⟨h1, j, (hs j _ _ h3).choose, h2, (hs j _ _ h3).choose_spec⟩) h
theorem NodeOk.grow {s s' : GS} {n m : Nat} {x : List Str × List Ed} (h : NodeOk s n x) (hs : ∀ (j : Nat) (r : List Str) (es : List Ed), s[j]? = some (r, es) → ∃ es', s'[j]? = some (r, es')) (hm : n ≤ m) : NodeOk s' m x :=
  ⟨h.corr.grow hs, h.good, h.ne, fun t ht => Nat.le_trans (h.deep t ht) hm⟩
theorem grow_app (s t : GS) : ∀ (j : Nat) (r : List Str) (es : List Ed), s[j]? = some (r, es) → ∃ es', (s ++ t)[j]? = some (r, es') := fun j r es h => ⟨es, by rw [List.getElem?_append_left (List.getElem?_eq_some_iff.1 h).1]; exact h⟩

/-- what adding does: nodes behind those that were there, all as they should be -/
structure AddOk (n : Nat) (s : GS) (rests : List Str) (q : GS × Nat) : Prop where
  tail : ∃ t, q.1 = s ++ t ∧ ∀ x ∈ t, NodeOk q.1 n x
  here : ∃ es, q.1[q.2]? = some (rests, es)
  apart : (names q.1).Nodup
structure EdgesOk (n : Nat) (s : GS) (gs : List (Nat × List Str)) (q : GS × List Ed) : Prop where
  tail : ∃ t, q.1 = s ++ t ∧ ∀ x ∈ t, NodeOk q.1 n x
  edges : All2 (fun g e => e.rune = ((g.1 : Nat) : Int) ∧ ∃ (j : Nat) (es : List Ed), e.to = (j : Int) ∧ q.1[j]? = some (g.2, es)) gs q.2
  apart : (names q.1).Nodup
theorem edgesM_ok {n : Nat} {add : GS → List Str → GS × Nat} : ∀ (gs : List (Nat × List Str)) (s : GS), (∀ g ∈ gs, ∀ s, (names s).Nodup → AddOk n s g.2 (add s g.2)) → (names s).Nodup → EdgesOk n s gs (edgesM add s gs)
  | [], s, _, hd => ⟨⟨[], by simp [edgesM], by simp⟩, .nil, hd⟩
  | g :: gs, s, hadd, hd => by
    have h1 := hadd g (by simp) s hd
    have h2 := edgesM_ok gs (add s g.2).1 (fun g' hg' => hadd g' (by simp [hg'])) h1.apart
    obtain ⟨t1, e1, k1⟩ := h1.tail
    obtain ⟨t2, e2, k2⟩ := h2.tail
    refine ⟨⟨t1 ++ t2, ?_, ?_⟩, ?_, h2.apart⟩
    · show (edgesM add (add s g.2).1 gs).1 = _
      rw [e2, e1, List.append_assoc]
    · intro x hx
      show NodeOk (edgesM add (add s g.2).1 gs).1 n x
      rcases List.mem_append.1 hx with hx | hx
      · rw [e2]
        exact (k1 x hx).grow (grow_app _ _) (Nat.le_refl _)
      · exact k2 x hx
    · refine .cons ⟨rfl, (add s g.2).2, ?_⟩ h2.edges
      obtain ⟨es, he⟩ := h1.here
      refine ⟨es, rfl, ?_⟩
      show (edgesM add (add s g.2).1 gs).1[_]? = _
      rw [e2, List.getElem?_append_left (List.getElem?_eq_some_iff.1 he).1]; exact he
theorem names_set {s : GS} {i : Nat} {r : List Str} {es es' : List Ed} (h : s[i]? = some (r, es)) : names (s.set i (r, es')) = names s := by
  unfold names
  rw [List.map_set]
  refine List.ext_getElem? fun j => ?_
  rw [List.getElem?_set]
  split
  · rename_i hij
    subst hij
    have hlt := (List.getElem?_eq_some_iff.1 h).1
    rw [if_pos (by simpa using hlt), List.getElem?_map, h]; rfl
  · rfl
theorem addM_ok : ∀ (f : Nat) (s : GS) (rests : List Str), Deep f rests → GoodR rests → rests ≠ [] → (names s).Nodup → AddOk f s rests (addM (f + 1) s rests)
  | f, s, rests, hd, hg, hne, hn => by
    unfold addM
    cases hi : s.findIdx? fun x => x.1 == rests with
    | some i => exact ⟨⟨[], by simp, by simp⟩, findIdx_some hi, hn⟩
    | none =>
      simp only
      have hno := findIdx_none hi
      have hn1 : (names (s ++ [(rests, [])])).Nodup := by
        unfold names
        rw [List.map_append, List.nodup_append]
        refine ⟨hn, by simp, fun a ha b hb => ?_⟩
        simp only [List.map_cons, List.map_nil, List.mem_singleton] at hb
        subst hb
        exact fun e => hno (by rw [← e]; exact ha)
      have hdr := dropE_good hg
      have ok := groups_ok _ _ (Nat.le_refl _) hdr.1 hdr.2
      have hedges : EdgesOk (f - 1) (s ++ [(rests, [])]) (groups (dropE rests)) (edgesM (addM f) (s ++ [(rests, [])]) (groups (dropE rests))) := by
        refine edgesM_ok _ _ (fun g hgm s' hs' => ?_) hn1
        cases f with
        | zero =>
          exfalso
          obtain ⟨t, ht⟩ : ∃ t, t ∈ g.2 := by
            cases hg2 : g.2 with
            | nil => exact absurd hg2 (ok.good g hgm).2.1
            | cons t _ => exact ⟨t, by simp⟩
          have hm : encL g.1 ++ t ∈ dropE rests := by
            rw [← ok.all]
            exact List.mem_flatMap.2 ⟨g, hgm, List.mem_map.2 ⟨t, ht, rfl⟩⟩
          have := hd _ (dropE_mem hm)
          rw [runes_app (ok.good g hgm).1] at this
          simp at this
        | succ f =>
          have h1 := addM_ok f s' g.2 (deep_groups hg hd g hgm) (ok.good g hgm).2.2 (ok.good g hgm).2.1 hs'
          exact h1
      generalize edgesM (addM f) (s ++ [(rests, [])]) (groups (dropE rests)) = q at hedges
      obtain ⟨t, e1, k1⟩ := hedges.tail
      have hat : q.1[s.length]? = some (rests, []) := by rw [e1]; simp
      have hset : q.1.set s.length (rests, q.2) = s ++ (rests, q.2) :: t := by
        rw [e1, List.append_assoc, List.set_append_right _ _ (Nat.le_refl _)]
        simp
      have hgr : ∀ (j : Nat) (r : List Str) (es : List Ed), q.1[j]? = some (r, es) → ∃ es', (q.1.set s.length (rests, q.2))[j]? = some (r, es') := by
        intro j r es hj
        by_cases hjs : s.length = j
        · subst hjs
          rw [hat] at hj
          simp only [Option.some.injEq, Prod.mk.injEq] at hj
          refine ⟨q.2, ?_⟩
          rw [List.getElem?_set_self (List.getElem?_eq_some_iff.1 hat).1, hj.1]
        · exact ⟨es, by rw [List.getElem?_set_ne hjs]; exact hj⟩
      refine ⟨⟨(rests, q.2) :: t, hset, fun x hx => ?_⟩, ⟨q.2, ?_⟩, ?_⟩
      · rcases List.mem_cons.1 hx with rfl | hx
        · refine ⟨?_, hg, hne, hd⟩
          exact All2.imp (fun g e ⟨h1, j, es, h2, h3⟩ => ⟨h1, j, (hgr j _ _ h3).choose, h2, (hgr j _ _ h3).choose_spec⟩) hedges.edges
        · exact (k1 x hx).grow hgr (by omega)
      · show (q.1.set s.length (rests, q.2))[s.length]? = _
        rw [List.getElem?_set_self (List.getElem?_eq_some_iff.1 hat).1]
      · show (names (q.1.set s.length (rests, q.2))).Nodup
        rw [names_set hat]; exact hedges.apart

/-- a graph of words, whole -/
structure WFG (s : GS) (words : List Str) : Prop where
  root : ∃ es, s[0]? = some (words, es)
  node : ∀ x ∈ s, NodeOk s 12 x
  apart : (names s).Nodup
theorem graphM_ok {words : List Str} (hd : Deep 12 words) (hg : GoodR words) (hne : words ≠ []) : WFG (graphM words) words := by
  have h := addM_ok 12 [] words hd hg hne (by simp [names])
  obtain ⟨t, e, k⟩ := h.tail
  have hidx : (addM 13 [] words).2 = 0 := by
    unfold addM; simp
  refine ⟨?_, fun x hx => ?_, h.apart⟩
  · have := h.here
    rw [hidx] at this; exact this
  · unfold graphM at hx ⊢
    rw [e] at hx
    exact k x (by simpa using hx)
theorem good_deep {l : List Str} (h : goodL l = 0) : GoodR l ∧ Deep 12 l := by
  have hw := good_words h
  exact ⟨⟨hw.2.2, fun s hs => (fine_of_word (hw.2.1 s hs)).1⟩, fun s hs => (fine_of_word (hw.2.1 s hs)).2.2⟩
end Go.Ml
