/-
  Graphs that were made of nodes: are they whole, which words have they? Plainly, and in memory.
-/
import Derived.Test.YtajedfbogchkcaaPlRead
import Derived.Test.YtajedfbogchkcaaLwLeast
import Derived.Test.YtajedfbogchkcaaLwGraph
set_option linter.unusedVariables false
set_option linter.unusedSimpArgs false
namespace Go.Ml
open Go.Ik
/-- edge by edge, until it says no -/
def eachW {σ : Type} (g : σ → Ed → Bool × σ) : σ → List Ed → Bool × σ
  | s, [] => (true, s)
  | s, e :: r => if (g s e).1 = true then eachW g (g s e).2 r else (false, (g s e).2)
theorem eachW_step {σ : Type} {g : σ → Ed → Bool × σ} {s : σ} {l : List Ed} {k : Nat} {e : Ed} {R : Bool × σ} (h : R = eachW g s (l.drop k)) (hx : l[k]? = some e) (hg : (g s e).1 = true) : R = eachW g (g s e).2 (l.drop (k + 1)) := by
  rw [h, drop_el' hx]
  conv => lhs; unfold eachW
  rw [if_pos hg]
theorem eachW_stop {σ : Type} {g : σ → Ed → Bool × σ} {s : σ} {l : List Ed} {k : Nat} {e : Ed} {R : Bool × σ} (h : R = eachW g s (l.drop k)) (hx : l[k]? = some e) (hg : (g s e).1 = false) : R = (false, (g s e).2) := by
  rw [h, drop_el' hx]
  conv => lhs; unfold eachW
  rw [if_neg (by simp [hg])]
theorem eachW_end {σ : Type} {g : σ → Ed → Bool × σ} {s : σ} {l : List Ed} {k : Nat} {R : Bool × σ} (h : R = eachW g s (l.drop k)) (hk : l.length ≤ k) : R = (true, s) := by
  rw [h, List.drop_of_length_le hk]; rfl
/-- does a node lead to ends, and none of those behind it to itself? what is known of nodes: 1 under way, 2 done -/
def goesW (N : List GN) : Nat → Nat → Int → List Int → Bool × List Int
  | 0, _, _, st => (false, st)
  | f + 1, n, d, st => match N[n]? with
    | none => (false, st)
    | some x => if st[n]? = some 2 then (true, st) else if st[n]? = some 1 ∨ d > 12 ∨ (x.1 = false ∧ x.2 = []) then (false, st) else
      if (eachW (fun st e => goesW N f e.to.toNat (d + 1) st) (st.set n 1) x.2).1 = true then (true, (eachW (fun st e => goesW N f e.to.toNat (d + 1) st) (st.set n 1) x.2).2.set n 2) else (false, (eachW (fun st e => goesW N f e.to.toNat (d + 1) st) (st.set n 1) x.2).2)
section
variable {N : List GN} {f n : Nat} {d : Int} {st : List Int} {x : GN} {y : Int}
theorem goesW_done (hx : N[n]? = some x) (hy : st[n]? = some y) (h : y = 2) : goesW N (f + 1) n d st = (true, st) := by
  subst h; unfold goesW; rw [hx]; simp only; rw [hy, if_pos rfl]
theorem goesW_no (hx : N[n]? = some x) (hy : st[n]? = some y) (h : ¬ y = 2) (h2 : y = 1 ∨ d > 12 ∨ (x.1 = false ∧ x.2 = [])) : goesW N (f + 1) n d st = (false, st) := by
  unfold goesW; rw [hx]; simp only; rw [hy, if_neg (by simpa using h), if_pos (by simpa using h2)]
theorem goesW_go (hx : N[n]? = some x) (hy : st[n]? = some y) (h : ¬ y = 2) (h2 : ¬ (y = 1 ∨ d > 12 ∨ (x.1 = false ∧ x.2 = []))) {R : Bool × List Int} (hR : R = eachW (fun st e => goesW N f e.to.toNat (d + 1) st) (st.set n 1) x.2) : goesW N (f + 1) n d st = if R.1 = true then (true, R.2.set n 2) else (false, R.2) := by
  subst hR
  conv => lhs; unfold goesW
  rw [hx]; simp only; rw [hy, if_neg (by simpa using h), if_neg (by simpa using h2)]
end
theorem goesW_goF {N : List GN} {f n : Nat} {d : Int} {st s' : List Int} {x : GN} {y : Int} (hx : N[n]? = some x) (hy : st[n]? = some y) (h : ¬ y = 2) (h2 : ¬ (y = 1 ∨ d > 12 ∨ (x.1 = false ∧ x.2 = []))) (hR : eachW (fun st e => goesW N f e.to.toNat (d + 1) st) (st.set n 1) x.2 = (false, s')) : goesW N (f + 1) n d st = (false, s') := by
  rw [goesW_go hx hy h h2 hR.symm]; simp
theorem goesW_goT {N : List GN} {f n : Nat} {d : Int} {st s' : List Int} {x : GN} {y : Int} (hx : N[n]? = some x) (hy : st[n]? = some y) (h : ¬ y = 2) (h2 : ¬ (y = 1 ∨ d > 12 ∨ (x.1 = false ∧ x.2 = []))) (hR : eachW (fun st e => goesW N f e.to.toNat (d + 1) st) (st.set n 1) x.2 = (true, s')) : goesW N (f + 1) n d st = (true, s'.set n 2) := by
  rw [goesW_go hx hy h h2 hR.symm]; simp
theorem eachW_len {g : List Int → Ed → Bool × List Int} {m : Nat} (hg : ∀ s e, s.length = m → (g s e).2.length = m) : ∀ (l : List Ed) (s : List Int), s.length = m → (eachW g s l).2.length = m
  | [], s, h => h
  | e :: l, s, h => by
    unfold eachW
    split
    · exact eachW_len hg l _ (hg s e h)
    · exact hg s e h
theorem goesW_len (N : List GN) : ∀ (f n : Nat) (d : Int) (st : List Int), (goesW N f n d st).2.length = st.length
  | 0, _, _, _ => rfl
  | f + 1, n, d, st => by
    unfold goesW
    split
    · rfl
    · split
      · rfl
      · split
        · rfl
        · have := eachW_len (g := fun st e => goesW N f e.to.toNat (d + 1) st) (m := st.length) (fun s e h => (goesW_len N f _ _ s).trans h) (‹GN›.2) (st.set n 1) (by simp)
          split
          · simp only [List.length_set]; exact this
          · exact this
/-- is it whole? -/
def wholeM (N : List GN) : Bool := (decide (N.length = 1) && decide ((N[0]?.map (·.2.length)) = some 0)) || (goesW N 14 0 0 (List.replicate N.length 0)).1
theorem wholeM_one {N : List GN} {x : GN} (h : N.length = 1) (hx : N[0]? = some x) (h2 : x.2.length = 0) : wholeM N = true := by
  unfold wholeM; rw [hx]; simp [h, h2]
theorem wholeM_far {N : List GN} {b : Bool} (hb : (goesW N 14 0 0 (List.replicate N.length 0)).1 = b) (h : N.length ≠ 1 ∨ ∃ x, N[0]? = some x ∧ x.2.length ≠ 0) : wholeM N = b := by
  subst hb
  unfold wholeM
  rcases h with h | ⟨x, hx, h2⟩
  · simp [h]
  · rw [hx]; simp [h2]
theorem encR_le (r : Int) : (encR r).length ≤ 4 := by
  unfold encR Utf8.encode
  simp only
  repeat' split
  all_goals first | (simp; done) | (simp only [ByteArray.data_mk, List.toArray_toList]; decide) | rfl | decide | simp
theorem fold_step {σ : Type} {g : σ → Ed → σ} {s : σ} {l : List Ed} {k : Nat} {e : Ed} {R : σ} (h : R = (l.drop k).foldl g s) (hx : l[k]? = some e) : R = (l.drop (k + 1)).foldl g (g s e) := by
  rw [h, drop_el' hx]; rfl
theorem fold_end {σ : Type} {g : σ → Ed → σ} {s : σ} {l : List Ed} {k : Nat} {R : σ} (h : R = (l.drop k).foldl g s) (hk : l.length ≤ k) : R = s := by
  rw [h, List.drop_of_length_le hk]; rfl
/-- the words that nodes tell, in depth-first order; false: too many or too long -/
def goesS (N : List GN) : Nat → Nat → Str → Int → List Str × Bool → List Str × Bool
  | 0, _, _, _, s => (s.1, false)
  | f + 1, n, a, d, s => if s.2 = false ∨ s.1.length > 60 ∨ d > 12 then (s.1, false) else match N[n]? with
    | none => (s.1, false)
    | some x => x.2.foldl (fun s e => goesS N f e.to.toNat (a ++ encR e.rune) (d + 1) s) (if x.1 = true then (s.1 ++ [a], s.2) else s)
section
variable {N : List GN} {f n : Nat} {d : Int} {a : Str} {l : List Str} {ok : Bool} {x : GN}
theorem goesS_no (h : ok = false ∨ l.length > 60 ∨ d > 12) : goesS N (f + 1) n a d (l, ok) = (l, false) := by
  unfold goesS; rw [if_pos h]
theorem goesS_go (h : ¬ (ok = false ∨ l.length > 60 ∨ d > 12)) (hx : N[n]? = some x) {R s0 : List Str × Bool} (h0 : s0 = if x.1 = true then (l ++ [a], ok) else (l, ok)) (hR : x.2.foldl (fun s e => goesS N f e.to.toNat (a ++ encR e.rune) (d + 1) s) s0 = R) : goesS N (f + 1) n a d (l, ok) = R := by
  conv => lhs; unfold goesS
  rw [if_neg h, hx]; simp only
  rw [← hR, h0]
end
theorem foldS_len {g : List Str × Bool → Ed → List Str × Bool} (hg : ∀ s e, s.1.length ≤ 61 → (g s e).1.length ≤ 61) : ∀ (l : List Ed) (s : List Str × Bool), s.1.length ≤ 61 → (l.foldl g s).1.length ≤ 61
  | [], s, h => h
  | e :: l, s, h => foldS_len hg l _ (hg s e h)
theorem goesS_len (N : List GN) : ∀ (f n : Nat) (a : Str) (d : Int) (s : List Str × Bool), s.1.length ≤ 61 → (goesS N f n a d s).1.length ≤ 61
  | 0, _, _, _, s, h => h
  | f + 1, n, a, d, s, h => by
    unfold goesS
    split
    · exact h
    · next hn =>
      split
      · exact h
      · refine foldS_len (fun s e h => goesS_len N f _ _ _ s h) _ _ ?_
        have : ¬ s.1.length > 60 := fun h => hn (.inr (.inl h))
        split
        · simp only [List.length_append, List.length_cons, List.length_nil]; omega
        · exact h
/-- all words, are they so many as may be? -/
def someM (N : List GN) : List Str × Bool :=
  let r := goesS N 14 0 [] 0 ([], true)
  (r.1, r.2 && decide (r.1.length ≤ 60))
theorem someM_eq {N : List GN} {l : List Str} {ok v : Bool} (h : (l, ok) = goesS N 14 0 [] 0 ([], true)) (hv : v = (ok && decide (l.length ≤ 60))) : someM N = (l, v) := by
  unfold someM; simp only [← h, hv]
theorem foldS_short {g : List Str × Bool → Ed → List Str × Bool} (hg : ∀ s e, (∀ t ∈ s.1, t.length ≤ 1000) → ∀ t ∈ (g s e).1, t.length ≤ 1000) : ∀ (l : List Ed) (s : List Str × Bool), (∀ t ∈ s.1, t.length ≤ 1000) → ∀ t ∈ (l.foldl g s).1, t.length ≤ 1000
  | [], s, h => h
  | e :: l, s, h => foldS_short hg l _ (hg s e h)
theorem goesS_short (N : List GN) : ∀ (f n : Nat) (a : Str) (d : Int) (s : List Str × Bool), (a.length : Int) ≤ 4 * d → (∀ t ∈ s.1, t.length ≤ 1000) → ∀ t ∈ (goesS N f n a d s).1, t.length ≤ 1000
  | 0, _, _, _, s, _, h => h
  | f + 1, n, a, d, s, ha, h => by
    unfold goesS
    split
    · exact h
    · next hn =>
      split
      · exact h
      · refine foldS_short (fun s e h => goesS_short N f _ _ _ s (by have := encR_le e.rune; simp only [List.length_append]; omega) h) _ _ ?_
        have : ¬ d > 12 := fun h => hn (.inr (.inr h))
        split
        · intro t ht
          rcases List.mem_append.1 ht with ht | ht
          · exact h t ht
          · simp only [List.mem_singleton] at ht; subst ht; omega
        · exact h
theorem someM_short (N : List GN) : ∀ t ∈ (someM N).1, t.length ≤ 1000 := goesS_short N 14 0 [] 0 ([], true) (by simp) (fun t ht => by cases ht)
theorem someM_ok (N : List GN) : LOk (someM N).1 := fun t ht => by have := someM_short N t ht; omega
theorem someM_len (N : List GN) : (someM N).1.length ≤ 61 := goesS_len N 14 0 [] 0 ([], true) (by simp)
/-- are edges told of nodes that are there? -/
def rightE (N : List GN) : Bool := N.all fun x => x.2.all fun e => decide (1 ≤ e.to ∧ e.to < (N.length : Int))
/-- the words of a graph that was made of nodes -/
def madeM (N : List GN) : Option (List Str) :=
  if rightE N = true ∧ N.length ≠ 0 ∧ N.length ≤ 721 ∧ wholeM N = true ∧ (someM N).2 = true ∧ goodL (someM N).1 = 0 ∧ gnodes (someM N).1 = N then some (someM N).1 else none
def madeG (N : List GN) : List GN := match madeM N with
  | none => []
  | some l => gnodes l
theorem madeG_no {N : List GN} (h : ¬ (rightE N = true ∧ N.length ≠ 0 ∧ N.length ≤ 721 ∧ wholeM N = true ∧ (someM N).2 = true ∧ goodL (someM N).1 = 0 ∧ gnodes (someM N).1 = N)) : madeG N = [] := by
  unfold madeG madeM; rw [if_neg h]
theorem madeG_yes {N : List GN} (h : rightE N = true ∧ N.length ≠ 0 ∧ N.length ≤ 721 ∧ wholeM N = true ∧ (someM N).2 = true ∧ goodL (someM N).1 = 0 ∧ gnodes (someM N).1 = N) : madeG N = gnodes (someM N).1 := by
  unfold madeG madeM; rw [if_pos h]
theorem rightE_iff {N : List GN} : rightE N = true ↔ ∀ x ∈ N, ∀ e ∈ x.2, 1 ≤ e.to ∧ e.to < (N.length : Int) := by
  unfold rightE; simp
theorem rightE_no {N : List GN} {k i : Nat} {x : GN} {e : Ed} (hx : N[k]? = some x) (he : x.2[i]? = some e) (h : ¬ (1 ≤ e.to ∧ e.to < (N.length : Int))) : ¬ rightE N = true := fun hr => h (rightE_iff.1 hr x (List.mem_of_getElem? hx) e (List.mem_of_getElem? he))
/-- two graphs' nodes, one by one -/
theorem like_len {N M : List GN} (h : N.length ≠ M.length) : decide (N = M) = false := decide_eq_false fun e => h (by rw [e])
theorem like_no {N M : List GN} {k : Nat} {a b : GN} (ha : N[k]? = some a) (hb : M[k]? = some b) (h : a ≠ b) : decide (N = M) = false := decide_eq_false fun e => h (by subst e; exact Option.some.inj (ha.symm.trans hb))
theorem like_edge {N M : List GN} {k i : Nat} {a b : GN} {x y : Ed} (ha : N[k]? = some a) (hb : M[k]? = some b) (hx : a.2[i]? = some x) (hy : b.2[i]? = some y) (h : x ≠ y) : decide (N = M) = false := like_no ha hb fun e => h (by subst e; exact Option.some.inj (hx.symm.trans hy))
theorem take_step {α : Type} {N M : List α} {k : Nat} {a : α} (h : N.take k = M.take k) (ha : N[k]? = some a) (hb : M[k]? = some a) : N.take (k + 1) = M.take (k + 1) := by
  rw [List.take_add_one, List.take_add_one, h, ha, hb]
theorem take_all {α : Type} {N M : List α} {k : Nat} (h : N.take k = M.take k) (h1 : N.length ≤ k) (h2 : M.length ≤ k) : N = M := by
  rwa [List.take_of_length_le h1, List.take_of_length_le h2] at h
theorem gn_eq {a b : GN} (h1 : a.1 = b.1) (h2 : a.2 = b.2) : a = b := Prod.ext h1 h2
end Go.Ml
namespace Go.Ik
open Go Go.Ml
/-- a graph that one holds, told for a call that only reads -/
theorem gr_held {w : World} {bG g : Nat} {e tn : TypeId} {v : Value} {nds : List RNode} {N : List GN} {G : Nat → Prop} (hb : Bk w bG [v] e) (ha : Acc encN tn 2 w g v nds) (hg : g ≤ w.heap.size) (hr : NRel w G nds N) (hG : ∀ b, G b → b < w.heap.size) :
    Row w bG 0 [v] ∧ bG < w.heap.size ∧ Sl encN w (fun b => b < w.heap.size) v nds ∧ NRel w (fun b => b < w.heap.size) nds N :=
  ⟨hb.row, hb.lt, ha.sl.mono fun b h => Nat.lt_of_lt_of_le h.2 hg, hr.mono hG⟩
theorem gr_told {w : World} {lo hi : Nat} {v : Value} {N : List GN} (h : Gr 0 w lo hi v N) (hN : N ≠ []) (hh : hi ≤ w.heap.size) :
    ∃ b vn nds, v = ptr b 0 ∧ Row w b 0 [vn] ∧ b < w.heap.size ∧ Sl encN w (fun b => b < w.heap.size) vn nds ∧ NRel w (fun b => b < w.heap.size) nds N := by
  rcases h with ⟨_, h⟩ | ⟨b, vn, nds, h1, h2, h3, h4, h5⟩
  · exact absurd h hN
  · exact ⟨b, vn, nds, h1, h3.2.2, Nat.lt_of_lt_of_le h3.2.1 hh, h4.mono fun b q => Nat.lt_of_lt_of_le q.2 hh, h5.mono fun b q => Nat.lt_of_lt_of_le q.2 hh⟩
theorem St.grOut {R : Nat → Prop} {w0 w : World} {L : List (Res R)} {i : Nat} {v : Value} {N : List GN} (h : St R (fun _ => False) w0 w L) (hi : L[i]? = some (grR v N)) (hN : N ≠ []) : ∃ lo up, Gr 0 w lo up v N ∧ w0.heap.size ≤ lo ∧ up ≤ w.heap.size := by
  obtain ⟨F, ⟨lo, up, h1, h2, h4⟩, h3, _⟩ := h.act hi
  refine ⟨lo, up, h1, ?_, h2⟩
  rcases h1 with ⟨_, h1⟩ | ⟨b, vn, nds, k1, k2, ⟨k3, k4, k5⟩, k6, k7⟩
  · exact absurd h1 hN
  · exact (h3 lo (h4 lo (Nat.le_refl _) (by omega))).1.1.resolve_left id
end Go.Ik
namespace Go.Ik
open Go Go.Ml
/-- what the words' gatherer holds -/
def smR {R : Nat → Prop} (tO tl tG tF te fk : Nat) (bok bl bga bfn bG : Nat) (s : List Str × Bool) : Res R := boxR [bkR bok [.bool s.2] tO, tbR tl te 1 encS bl s.1, bkR bga [ptr bG 0] tG, bkR bfn [.func (.func fk) #[] #[ptr bok 0, ptr bl 0, ptr bga 0, ptr bfn 0]] tF]
/-- what 'goes' holds: the graph's box, the states', its own -/
def whR {R : Nat → Prop} (t1 t3 tI t4 fk : Nat) (b1 b3 b4 bG : Nat) (vS : Value) (st : List Int) : Res R := boxR [bkR b1 [ptr bG 0] t1, bkR b3 [vS] t3, accR Ik.encI tI 1 vS st, bkR b4 [.func (.func fk) #[] #[ptr b1 0, ptr b3 0, ptr b4 0]] t4]
end Go.Ik
namespace Go.Ik
open Go
theorem toArgs {P : Program} {f : FuncId} {r : List Value} {w : World} {K : Ending → World → Prop} {n : Nat} {m : Int} (h : Calls P f (.int .i64 (n : Int) :: r).toArray w K) (hn : m = (n : Int)) : Calls P f (.int .i64 m :: r).toArray w K := by subst hn; exact h
end Go.Ik
