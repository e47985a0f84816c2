import Derived.Test.YtnikbecfjbjbbaaLibB
/-
  Plain functions of chapters 1, 4, 12, 13: what the Go functions compute; no program in sight.
-/
set_option linter.unusedVariables false
set_option linter.unusedSimpArgs false
namespace Go.Ml
open Go.Ik

/-! runes of a text -/
def runesF : Nat → Str → List Nat
  | 0, _ => []
  | n + 1, s => match s with
    | [] => []
    | a :: r => (dec (a :: r)).1 :: runesF n ((a :: r).drop (dec (a :: r)).2)
def runes (s : Str) : List Nat := runesF s.length s

theorem runesF_enough : ∀ (n m : Nat) (s : Str), s.length ≤ n → s.length ≤ m → runesF n s = runesF m s
  | 0, 0, _, _, _ => rfl
  | 0, m + 1, s, h, _ => by
    have : s = [] := List.eq_nil_of_length_eq_zero (by omega)
    subst this; rfl
  | n + 1, 0, s, _, h => by
    have : s = [] := List.eq_nil_of_length_eq_zero (by omega)
    subst this; rfl
  | n + 1, m + 1, [], _, _ => rfl
  | n + 1, m + 1, a :: r, h1, h2 => by
    simp only [runesF]
    have hp := dec_pos (a :: r) (by simp)
    rw [runesF_enough n m _ (by simp only [List.length_drop, List.length_cons] at *; omega) (by simp only [List.length_drop, List.length_cons] at *; omega)]

theorem runes_nil : runes [] = [] := rfl
theorem runes_cons {s : Str} (h : s ≠ []) : runes s = (dec s).1 :: runes (s.drop (dec s).2) := by
  cases s with
  | nil => exact absurd rfl h
  | cons a r =>
    have hp := dec_pos (a :: r) (by simp)
    show (dec (a :: r)).1 :: runesF r.length ((a :: r).drop (dec (a :: r)).2) = _
    rw [runesF_enough r.length ((a :: r).drop (dec (a :: r)).2).length _ (by simp only [List.length_drop, List.length_cons]; omega) (Nat.le_refl _)]
    rfl
theorem runes_length (s : Str) : (runes s).length ≤ s.length := by
  have : ∀ n (s : Str), s.length ≤ n → (runes s).length ≤ s.length := by
    intro n
    induction n with
    | zero => intro s h; have : s = [] := List.eq_nil_of_length_eq_zero (by omega); subst this; simp [runes_nil]
    | succ n ih =>
      intro s h
      by_cases hs : s = []
      · subst hs; simp [runes_nil]
      · rw [runes_cons hs]
        have hp := dec_pos s hs
        have hl := dec_le s hs
        have := ih (s.drop (dec s).2) (by rw [List.length_drop]; omega)
        rw [List.length_drop] at this
        rw [List.length_cons]; omega
  exact this _ s (Nat.le_refl _)

/-- a walk over a text: 'pre' has been read, position p -/
structure Scan (s : Str) (p : Nat) (pre : List Nat) : Prop where
  all : runes s = pre ++ runes (s.drop p)
  le : p ≤ s.length
  len : pre.length ≤ p
theorem Scan.start (s : Str) : Scan s 0 [] := ⟨by simp, Nat.zero_le _, by simp⟩
theorem Scan.next {s : Str} {p : Nat} {pre : List Nat} (h : Scan s p pre) (he : s.drop p ≠ []) : Scan s (p + (dec (s.drop p)).2) (pre ++ [(dec (s.drop p)).1]) := by
  have hl := dec_le _ he
  have hp := dec_pos _ he
  rw [List.length_drop] at hl
  have := h.le
  have hlt : p < s.length := by
    rcases Nat.lt_or_ge p s.length with h | h
    · exact h
    · exact absurd (List.drop_of_length_le h) he
  refine ⟨?_, by omega, by have := h.len; simp; omega⟩
  rw [h.all, runes_cons he, List.drop_drop]
  simp
theorem Scan.done {s : Str} {p : Nat} {pre : List Nat} (h : Scan s p pre) (he : s.drop p = []) : runes s = pre := by
  rw [h.all, he, runes_nil, List.append_nil]
theorem Scan.mem {s : Str} {p : Nat} {pre : List Nat} (h : Scan s p pre) (he : s.drop p ≠ []) : (dec (s.drop p)).1 ∈ runes s := by
  rw [h.all, runes_cons he]; simp

/-! chapter 1 -/
def lenT (s : Str) : Int := if 65533 ∈ runes s then -1 else ((runes s).length : Int)
def word (s : Str) : Bool := decide (lenT s ≥ 1) && decide (lenT s ≤ 12)
def asked (s : Str) : Bool := decide (lenT s ≥ 0) && decide (lenT s ≤ 16)

structure LenInv (s : Str) (p k : Nat) : Prop where
  ex : ∃ pre, Scan s p pre ∧ pre.length = k ∧ 65533 ∉ pre
  le : p ≤ s.length
  kp : k ≤ p
theorem LenInv.start (s : Str) : LenInv s 0 0 := ⟨⟨[], Scan.start s, rfl, by simp⟩, Nat.zero_le _, Nat.le_refl _⟩
theorem LenInv.odd {s : Str} {p k : Nat} (h : LenInv s p k) (he : s.drop p ≠ []) (hd : ((dec (s.drop p)).1 : Int) = 65533) : (-1 : Int) = lenT s := by
  obtain ⟨pre, h1, h2, h3⟩ := h.ex
  have hm := h1.mem he
  have : (dec (s.drop p)).1 = 65533 := by omega
  rw [this] at hm
  simp [lenT, hm]
theorem LenInv.next {s : Str} {p k : Nat} (h : LenInv s p k) (he : s.drop p ≠ []) (hd : ((dec (s.drop p)).1 : Int) ≠ 65533) : LenInv s (p + (dec (s.drop p)).2) (k + 1) := by
  obtain ⟨pre, h1, h2, h3⟩ := h.ex
  have hn := h1.next he
  refine ⟨⟨_, hn, by simp [h2], ?_⟩, hn.le, by have := hn.len; simp [h2] at this; exact this⟩
  simp only [List.mem_append, List.mem_singleton, not_or]
  exact ⟨h3, fun e => hd (by omega)⟩
theorem LenInv.fin {s : Str} {p k : Nat} (h : LenInv s p k) (he : s.drop p = []) : ((k : Nat) : Int) = lenT s := by
  obtain ⟨pre, h1, h2, h3⟩ := h.ex
  have := h1.done he
  simp [lenT, this, h3, h2]
theorem LenInv.lt {s : Str} {p k : Nat} (h : LenInv s p k) (he : s.drop p ≠ []) : k < s.length := by
  have := h.kp
  have : p < s.length := by
    rcases Nat.lt_or_ge p s.length with h | h
    · exact h
    · exact absurd (List.drop_of_length_le h) he
  omega
theorem lenT_ge (s : Str) : -1 ≤ lenT s := by unfold lenT; split <;> omega
theorem lenT_le (s : Str) : lenT s ≤ s.length := by
  unfold lenT; have := runes_length s; split <;> omega

/-! chapter 4 -/
def lt (a b : Str) : Bool := decide (Lib.compareBytes a b < 0)
def rising : List Str → Bool
  | [] => true
  | [_] => true
  | a :: b :: r => decide (Lib.compareBytes a b < 0) && rising (b :: r)
def goodL (l : List Str) : Int := if l.length > 60 then 3 else if l.all word = true then (if rising l = true then 0 else 7) else 6
/-- long texts -/
def LOk (l : List Str) : Prop := ∀ s ∈ l, s.length ≤ 9223372036854775807
theorem LOk.at {l : List Str} (h : LOk l) {k : Nat} {x : Str} (hx : l[k]? = some x) : x.length ≤ 9223372036854775807 := h x (List.mem_of_getElem? hx)

theorem all_take_succ {α : Type} {p : α → Bool} {l : List α} {k : Nat} {x : α} (h : (l.take k).all p = true) (hx : l[k]? = some x) (hp : p x = true) : (l.take (k + 1)).all p = true := by
  rw [List.take_add_one, hx]; simp_all
theorem all_of_take {α : Type} {p : α → Bool} {l : List α} {k : Nat} (h : (l.take k).all p = true) (hk : l.length ≤ k) : l.all p = true := by
  rwa [List.take_of_length_le hk] at h
theorem not_all {α : Type} {p : α → Bool} {l : List α} {k : Nat} {x : α} (hx : l[k]? = some x) (hp : p x = false) : l.all p = false := by
  rw [List.all_eq_false]; exact ⟨x, List.mem_of_getElem? hx, by simp [hp]⟩

theorem rising_take_succ : ∀ {l : List Str} {k : Nat} {x y : Str}, rising (l.take (k + 1)) = true → l[k]? = some x → l[k + 1]? = some y → Lib.compareBytes x y < 0 → rising (l.take (k + 2)) = true
  | [], k, x, y, _, hx, _, _ => by simp at hx
  | a :: l, 0, x, y, h, hx, hy, hc => by
    cases l with
    | nil => simp at hy
    | cons b l =>
      simp only [List.getElem?_cons_zero, Option.some.injEq] at hx
      simp only [Nat.zero_add, List.getElem?_cons_succ, List.getElem?_cons_zero, Option.some.injEq] at hy
      subst hx; subst hy
      simp [rising, hc]
  | a :: l, k + 1, x, y, h, hx, hy, hc => by
    cases l with
    | nil => simp at hx
    | cons b l =>
      simp only [List.take_succ_cons, rising, Bool.and_eq_true, decide_eq_true_eq] at h ⊢
      refine ⟨h.1, ?_⟩
      have := rising_take_succ (l := b :: l) (k := k) (x := x) (y := y) (by simpa using h.2) (by simpa using hx) (by simpa using hy) hc
      simpa using this
theorem rising_not : ∀ {l : List Str} {k : Nat} {x y : Str}, l[k]? = some x → l[k + 1]? = some y → ¬ Lib.compareBytes x y < 0 → rising l = false
  | [], k, x, y, hx, _, _ => by simp at hx
  | a :: l, 0, x, y, hx, hy, hc => by
    cases l with
    | nil => simp at hy
    | cons b l =>
      simp only [List.getElem?_cons_zero, Option.some.injEq] at hx
      simp only [Nat.zero_add, List.getElem?_cons_succ, List.getElem?_cons_zero, Option.some.injEq] at hy
      subst hx; subst hy
      simp [rising, hc]
  | a :: l, k + 1, x, y, hx, hy, hc => by
    cases l with
    | nil => simp at hx
    | cons b l =>
      have := rising_not (l := b :: l) (k := k) (x := x) (y := y) (by simpa using hx) (by simpa using hy) hc
      simp [rising, this]
theorem rising_one (l : List Str) : rising (l.take 1) = true := by
  cases l <;> rfl

theorem goodL_word {l : List Str} {k : Nat} {x : Str} (h60 : ¬ (((l.length : Nat) : Int) > 60)) (hx : l[k]? = some x) (hw : word x = false) : (6 : Int) = goodL l := by
  unfold goodL; rw [if_neg (by omega), if_neg (by rw [not_all hx hw]; simp)]
theorem goodL_sort {l : List Str} {k : Nat} {x y : Str} (h60 : ¬ (((l.length : Nat) : Int) > 60)) (ha : l.all word = true) (hx : l[k]? = some x) (hy : l[k + 1]? = some y) (hc : ¬ Lib.compareBytes x y < 0) : (7 : Int) = goodL l := by
  unfold goodL; rw [if_neg (by omega), if_pos ha, if_neg (by rw [rising_not hx hy hc]; simp)]
theorem goodL_ok {l : List Str} {k : Nat} (h60 : ¬ (((l.length : Nat) : Int) > 60)) (ha : l.all word = true) (h : rising (l.take k) = true) (hk : l.length ≤ k) : (0 : Int) = goodL l := by
  rw [List.take_of_length_le hk] at h
  unfold goodL; rw [if_neg (by omega), if_pos ha, if_pos h]
theorem dec_lt {s : Str} {p : Nat} (h : s.drop p ≠ []) : 1 ≤ (dec (s.drop p)).2 ∧ p + (dec (s.drop p)).2 ≤ s.length := by
  have h1 := dec_pos _ h
  have h2 := dec_le _ h
  rw [List.length_drop] at h2
  have : p < s.length := by
    rcases Nat.lt_or_ge p s.length with h' | h'
    · exact h'
    · exact absurd (List.drop_of_length_le h') h
  omega
theorem lenT_I64 {s : Str} (h : s.length ≤ 9223372036854775807) : I64 (lenT s) := by
  have h1 := lenT_ge s; have h2 := lenT_le s; unfold I64; omega
theorem cmp_range : ∀ (a b : Str), -1 ≤ Lib.compareBytes a b ∧ Lib.compareBytes a b ≤ 1
  | [], [] => by simp [Lib.compareBytes]
  | [], _ :: _ => by simp [Lib.compareBytes]
  | _ :: _, [] => by simp [Lib.compareBytes]
  | a :: x, b :: y => by
    unfold Lib.compareBytes
    split
    · omega
    · split
      · omega
      · exact cmp_range x y
theorem cmp_I64 (a b : Str) : I64 (Lib.compareBytes a b) := by have := cmp_range a b; unfold I64; omega
theorem rising_step {l : List Str} {j : Nat} {x y : Str} (h : rising (l.take j) = true) (hj : 1 ≤ j) (hx : l[j - 1]? = some x) (hy : l[j]? = some y) (hc : Lib.compareBytes x y < 0) : rising (l.take (j + 1)) = true := by
  obtain ⟨k, rfl⟩ : ∃ k, j = k + 1 := ⟨j - 1, by omega⟩
  exact rising_take_succ h (by simpa using hx) hy hc
theorem goodL_full {l : List Str} (h : ((l.length : Nat) : Int) > 60) : (3 : Int) = goodL l := by
  unfold goodL; rw [if_pos (by omega)]
theorem goodL_sort' {l : List Str} {j : Nat} {x y : Str} (h60 : ¬ (((l.length : Nat) : Int) > 60)) (ha : l.all word = true) (hj : 1 ≤ j) (hx : l[j - 1]? = some x) (hy : l[j]? = some y) (hc : ¬ Lib.compareBytes x y < 0) : (7 : Int) = goodL l := by
  obtain ⟨k, rfl⟩ : ∃ k, j = k + 1 := ⟨j - 1, by omega⟩
  exact goodL_sort h60 ha (by simpa using hx) hy hc
theorem goodL_range (l : List Str) : 0 ≤ goodL l ∧ goodL l ≤ 7 := by
  unfold goodL
  repeat' split
  all_goals omega
/-! chapter 13 -/
def within (x least most : Int) : Bool := decide (x ≥ least) && decide (x ≤ most)
structure Key where
  len : Int
  text : Str
  deriving DecidableEq, Repr
def encKey (k : Key) : List Value := [.int .i64 k.len, strV k.text]
theorem encKey_len (x : Key) : (encKey x).length = 2 := rfl
theorem encKey_one (x : Key) : (encKey x).all (·.oneCell') = true := rfl
structure Cfg where
  words : List Str
  cuts : List Key
  workers : Int
  copies : Int
  slots : Int
  batch : Int
  lease : Int
  hedge : Int
  first : Int
  cap : Int
  jitter : Int
  net : Int
/-- the numbers of a configuration are numbers of Go -/
structure Cfg.Ok (c : Cfg) : Prop where
  workers : I64 c.workers
  copies : I64 c.copies
  slots : I64 c.slots
  batch : I64 c.batch
  lease : I64 c.lease
  hedge : I64 c.hedge
  first : I64 c.first
  cap : I64 c.cap
  jitter : I64 c.jitter
  net : I64 c.net
  words : LOk c.words
  cuts : ∀ k ∈ c.cuts, I64 k.len ∧ k.text.length ≤ 9223372036854775807

/-! cmp -/
def cmpI (x y : Int) : Int := if x < y then -1 else if x > y then 1 else 0
def orI : List Int → Int
  | [] => 0
  | x :: r => if x ≠ 0 then x else orI r
theorem orI_drop {l : List Int} {k : Nat} {x : Int} (h : orI l = orI (l.drop k)) (hx : l[k]? = some x) (h0 : x = 0) : orI l = orI (l.drop (k + 1)) := by
  have hk : k < l.length := (List.getElem?_eq_some_iff.1 hx).1
  have e : l[k] = x := (List.getElem?_eq_some_iff.1 hx).2
  rw [h, List.drop_eq_getElem_cons hk, e]
  simp [orI, h0]
theorem orI_found {l : List Int} {k : Nat} {x : Int} (h : orI l = orI (l.drop k)) (hx : l[k]? = some x) (h0 : x ≠ 0) : x = orI l := by
  have hk : k < l.length := (List.getElem?_eq_some_iff.1 hx).1
  have e : l[k] = x := (List.getElem?_eq_some_iff.1 hx).2
  rw [h, List.drop_eq_getElem_cons hk, e]
  simp [orI, h0]
theorem orI_end {l : List Int} {k : Nat} (h : orI l = orI (l.drop k)) (hk : l.length ≤ k) : (0 : Int) = orI l := by
  rw [h, List.drop_of_length_le hk]; rfl

/-! chapter 12 -/
def keyCmp (a b : Key) : Int := orI [cmpI a.len b.len, Lib.compareBytes a.text b.text]
def keyLess (a b : Key) : Bool := decide (keyCmp a b < 0)
def keyOk (c : Key) : Bool := !(decide (c.len < 1) || decide (c.len > 12) || decide (lenT c.text < 0) || decide (lenT c.text > 12))
def keysRise : List Key → Bool
  | [] => true
  | [_] => true
  | a :: b :: r => keyLess a b && keysRise (b :: r)
def goodC (l : List Key) : Int := if l.length > 5 then 3 else if l.all keyOk = true then (if keysRise l = true then 0 else 7) else 2
def belowN (l : List Key) (k : Key) : Nat := (l.filter fun c => !keyLess k c).length
def ofM (cuts : List Key) (w : Str) : Int := if word w then (belowN cuts ⟨lenT w, w⟩ : Int) else -1
def slP (cuts : List Key) (shard : Int) (w : Str) : Bool := decide (ofM cuts w ≥ 0) && (ofM cuts w == shard)
theorem slP_yes {cuts : List Key} {shard : Int} {w : Str} (h1 : 0 ≤ ofM cuts w) (h2 : ofM cuts w = shard) : slP cuts shard w = true := by simp [slP, ← h2, h1]
theorem slP_no1 {cuts : List Key} {shard : Int} {w : Str} (h1 : ¬ 0 ≤ ofM cuts w) : slP cuts shard w = false := by simp [slP, h1]
theorem slP_no2 {cuts : List Key} {shard : Int} {w : Str} (h2 : ofM cuts w ≠ shard) : slP cuts shard w = false := by simp [slP, h2]
def sliceM (cuts : List Key) (words : List Str) (shard : Int) : List Str := words.filter (slP cuts shard)

theorem keysRise_one (l : List Key) : keysRise (l.take 1) = true := by
  cases l <;> rfl
theorem keysRise_take_succ : ∀ {l : List Key} {k : Nat} {x y : Key}, keysRise (l.take (k + 1)) = true → l[k]? = some x → l[k + 1]? = some y → keyLess x y = true → keysRise (l.take (k + 2)) = true
  | [], k, x, y, _, hx, _, _ => by simp at hx
  | a :: l, 0, x, y, h, hx, hy, hc => by
    cases l with
    | nil => simp at hy
    | cons b l =>
      simp only [List.getElem?_cons_zero, Option.some.injEq] at hx
      simp only [Nat.zero_add, List.getElem?_cons_succ, List.getElem?_cons_zero, Option.some.injEq] at hy
      subst hx; subst hy
      simp [keysRise, hc]
  | a :: l, k + 1, x, y, h, hx, hy, hc => by
    cases l with
    | nil => simp at hx
    | cons b l =>
      simp only [List.take_succ_cons, keysRise, Bool.and_eq_true] at h ⊢
      refine ⟨h.1, ?_⟩
      have := keysRise_take_succ (l := b :: l) (k := k) (x := x) (y := y) (by simpa using h.2) (by simpa using hx) (by simpa using hy) hc
      simpa using this
theorem keysRise_not : ∀ {l : List Key} {k : Nat} {x y : Key}, l[k]? = some x → l[k + 1]? = some y → keyLess x y = false → keysRise l = false
  | [], k, x, y, hx, _, _ => by simp at hx
  | a :: l, 0, x, y, hx, hy, hc => by
    cases l with
    | nil => simp at hy
    | cons b l =>
      simp only [List.getElem?_cons_zero, Option.some.injEq] at hx
      simp only [Nat.zero_add, List.getElem?_cons_succ, List.getElem?_cons_zero, Option.some.injEq] at hy
      subst hx; subst hy
      simp [keysRise, hc]
  | a :: l, k + 1, x, y, hx, hy, hc => by
    cases l with
    | nil => simp at hx
    | cons b l =>
      have := keysRise_not (l := b :: l) (k := k) (x := x) (y := y) (by simpa using hx) (by simpa using hy) hc
      simp [keysRise, this]
theorem keysRise_step {l : List Key} {j : Nat} {x y : Key} (h : keysRise (l.take j) = true) (hj : 1 ≤ j) (hx : l[j - 1]? = some x) (hy : l[j]? = some y) (hc : keyLess x y = true) : keysRise (l.take (j + 1)) = true := by
  obtain ⟨k, rfl⟩ : ∃ k, j = k + 1 := ⟨j - 1, by omega⟩
  exact keysRise_take_succ h (by simpa using hx) hy hc
theorem goodC_full {l : List Key} (h : ((l.length : Nat) : Int) > 5) : (3 : Int) = goodC l := by
  unfold goodC; rw [if_pos (by omega)]
theorem goodC_key {l : List Key} {k : Nat} {x : Key} (h5 : ¬ (((l.length : Nat) : Int) > 5)) (hx : l[k]? = some x) (hw : keyOk x = false) : (2 : Int) = goodC l := by
  unfold goodC; rw [if_neg (by omega), if_neg (by rw [not_all hx hw]; simp)]
theorem goodC_sort {l : List Key} {j : Nat} {x y : Key} (h5 : ¬ (((l.length : Nat) : Int) > 5)) (ha : l.all keyOk = true) (hj : 1 ≤ j) (hx : l[j - 1]? = some x) (hy : l[j]? = some y) (hc : keyLess x y = false) : (7 : Int) = goodC l := by
  obtain ⟨k, rfl⟩ : ∃ k, j = k + 1 := ⟨j - 1, by omega⟩
  unfold goodC; rw [if_neg (by omega), if_pos ha, if_neg (by rw [keysRise_not (by simpa using hx) hy hc]; simp)]
theorem goodC_ok {l : List Key} {k : Nat} (h5 : ¬ (((l.length : Nat) : Int) > 5)) (ha : l.all keyOk = true) (h : keysRise (l.take k) = true) (hk : l.length ≤ k) : (0 : Int) = goodC l := by
  rw [List.take_of_length_le hk] at h
  unfold goodC; rw [if_neg (by omega), if_pos ha, if_pos h]

theorem filter_take_yes {α : Type} {p : α → Bool} {l : List α} {k : Nat} {x : α} (hx : l[k]? = some x) (hp : p x = true) : (l.take (k + 1)).filter p = (l.take k).filter p ++ [x] := by
  rw [List.take_add_one, hx]; simp [List.filter_append, hp]
theorem filter_take_no {α : Type} {p : α → Bool} {l : List α} {k : Nat} {x : α} (hx : l[k]? = some x) (hp : p x = false) : (l.take (k + 1)).filter p = (l.take k).filter p := by
  rw [List.take_add_one, hx]; simp [List.filter_append, hp]
theorem filter_take_all {α : Type} {p : α → Bool} {l : List α} {k : Nat} (h : l.length ≤ k) : (l.take k).filter p = l.filter p := by
  rw [List.take_of_length_le h]
theorem belowN_le (l : List Key) (k : Key) : belowN l k ≤ l.length := List.length_filter_le _ _

/-! chapter 13 -/
def nodesM (c : Cfg) : Bool := within c.workers 1 5 && within c.copies 1 (min 3 c.workers)
def sizesM (c : Cfg) : Bool := within c.slots 1 4 && within c.batch 1 5 && within c.net 8 64
def timesM (c : Cfg) : Bool := within c.lease 1 1000 && within c.hedge 1 1000 && within c.first 1 10 && within c.cap c.first 50 && within c.jitter 0 10
def may (c : Cfg) : Bool := (goodL c.words == 0) && (goodC c.cuts == 0) && (nodesM c && sizesM c && timesM c)
def shards (c : Cfg) : Nat := if may c = true then c.cuts.length + 1 else 0
def copiesM (c : Cfg) (shard : Int) : List Int := if within shard 0 ((shards c : Int) - 1) = true then (List.range c.copies.toNat).map (fun j : Nat => 1 + (shard + (j : Int)) % c.workers) else []
def keepsM (c : Cfg) (worker : Int) : List Int := ((List.range (shards c)).filter (fun s : Nat => (copiesM c (s : Int)).contains worker)).map (fun s : Nat => (s : Int))
def wordsM (c : Cfg) (shard : Int) : List Str := sliceM c.cuts c.words shard

/-! chapter 4 -/
def mergeL (a b : List Str) : List Str :=
  match a, b with
  | [], b => b
  | a, [] => a
  | x :: a, y :: b => if Lib.compareBytes x y < 0 then x :: mergeL a (y :: b) else if x = y then mergeL a (y :: b) else y :: mergeL (x :: a) b
  termination_by a.length + b.length

/-! what the statements share -/
def greatT (l : List Str) : Bool := decide (l.length > 80) || l.any fun s => decide (s.length > 100)
def greatC (c : Cfg) : Bool := decide (c.cuts.length > 10) || (c.cuts.any fun k => decide (k.text.length > 100)) || greatT c.words
def lowM (x n : Int) : Int := (IntKind.u64.wrap x) % n
theorem any_take_no {α : Type} {p : α → Bool} {l : List α} {k : Nat} {x : α} (h : (l.take k).any p = false) (hx : l[k]? = some x) (hp : p x = false) : (l.take (k + 1)).any p = false := by
  rw [List.take_add_one, hx]; simp_all
theorem any_of_take {α : Type} {p : α → Bool} {l : List α} {k : Nat} (h : (l.take k).any p = false) (hk : l.length ≤ k) : l.any p = false := by
  rwa [List.take_of_length_le hk] at h
theorem any_yes {α : Type} {p : α → Bool} {l : List α} {k : Nat} {x : α} (hx : l[k]? = some x) (hp : p x = true) : l.any p = true :=
  List.any_eq_true.2 ⟨x, List.mem_of_getElem? hx, hp⟩
theorem same_take {α : Type} {a b : List α} {k : Nat} {x y : α} (h : a.take k = b.take k) (hx : a[k]? = some x) (hy : b[k]? = some y) (e : x = y) : a.take (k + 1) = b.take (k + 1) := by
  rw [List.take_add_one, List.take_add_one, hx, hy, h, e]
theorem same_all {α : Type} {a b : List α} {k : Nat} (h : a.take k = b.take k) (hk : a.length ≤ k) (hl : a.length = b.length) : a = b := by
  rwa [List.take_of_length_le hk, List.take_of_length_le (by omega)] at h
theorem same_not {α : Type} {a b : List α} {k : Nat} {x y : α} (hx : a[k]? = some x) (hy : b[k]? = some y) (e : x ≠ y) : a ≠ b := fun h => by
  subst h; rw [hx] at hy; exact e (by simpa using hy)
/-! slices.Index of integers -/
def indexI : List Int → Int → Int
  | [], _ => -1
  | x :: r, v => if v = x then 0 else (if indexI r v < 0 then -1 else indexI r v + 1)
theorem indexI_ge : ∀ (l : List Int) (v : Int), -1 ≤ indexI l v
  | [], _ => by simp [indexI]
  | x :: r, v => by unfold indexI; have := indexI_ge r v; split <;> (try split) <;> omega
structure IndexInv (s : List Int) (v : Int) (k : Nat) : Prop where
  none : ∀ x ∈ s.take k, v ≠ x
theorem IndexInv.start (s : List Int) (v : Int) : IndexInv s v 0 := ⟨by simp⟩
theorem IndexInv.next {s : List Int} {v : Int} {k : Nat} {x : Int} (h : IndexInv s v k) (hx : s[k]? = some x) (hne : v ≠ x) : IndexInv s v (k + 1) := by
  refine ⟨fun y hy => ?_⟩
  rw [List.take_add_one, hx] at hy
  simp only [Option.toList_some, List.mem_append, List.mem_singleton] at hy
  rcases hy with hy | rfl
  · exact h.none y hy
  · exact hne
theorem indexI_at : ∀ (s : List Int) (v : Int) (k : Nat), (∀ x ∈ s.take k, v ≠ x) → s[k]? = some v → indexI s v = (k : Int)
  | [], _, _, _, h => by simp at h
  | x :: r, v, 0, _, h => by
    simp only [List.getElem?_cons_zero, Option.some.injEq] at h
    simp [indexI, h]
  | x :: r, v, k + 1, hn, h => by
    have h1 : v ≠ x := hn x (by simp)
    have ih := indexI_at r v k (fun y hy => hn y (by simp [hy])) (by simpa using h)
    rw [indexI, if_neg h1, ih, if_neg (by omega)]; rfl
theorem indexI_none : ∀ (s : List Int) (v : Int), (∀ x ∈ s, v ≠ x) → indexI s v = -1
  | [], _, _ => rfl
  | x :: r, v, hn => by
    rw [indexI, if_neg (hn x (by simp)), indexI_none r v (fun y hy => hn y (by simp [hy])), if_pos (by omega)]
theorem IndexInv.found {s : List Int} {v : Int} {k : Nat} {x : Int} (h : IndexInv s v k) (hx : s[k]? = some x) (he : v = x) : ((k : Nat) : Int) = indexI s v := by
  subst he; exact (indexI_at s v k h.none hx).symm
theorem IndexInv.fin {s : List Int} {v : Int} {k : Nat} (h : IndexInv s v k) (hk : s.length ≤ k) : (-1 : Int) = indexI s v := by
  have := h.none; rw [List.take_of_length_le hk] at this
  exact (indexI_none s v this).symm
theorem contains_index : ∀ (s : List Int) (v : Int), s.contains v = decide (indexI s v ≥ 0)
  | [], _ => by simp [indexI]
  | x :: r, v => by
    have ih := contains_index r v
    by_cases h : v = x
    · subst h; simp [indexI]
    · have hb : (v == x) = false := by simpa using h
      rw [List.contains_cons, hb, Bool.false_or, ih, indexI, if_neg h]
      by_cases h2 : indexI r v < 0
      · rw [if_pos h2]; simp; omega
      · rw [if_neg h2]; simp; omega
/-! place -/
theorem may_cuts {c : Cfg} (h : may c = true) : c.cuts.length ≤ 5 := by
  simp only [may, Bool.and_eq_true, beq_iff_eq] at h
  have h2 := h.1.2
  unfold goodC at h2
  by_cases hl : c.cuts.length > 5
  · rw [if_pos hl] at h2; omega
  · omega
theorem may_words {c : Cfg} (h : may c = true) : c.words.length ≤ 60 := by
  simp only [may, Bool.and_eq_true, beq_iff_eq] at h
  have h2 := h.1.1
  unfold goodL at h2
  by_cases hl : c.words.length > 60
  · rw [if_pos hl] at h2; omega
  · omega
theorem shards_le (c : Cfg) : shards c ≤ 6 := by
  unfold shards
  split
  · rename_i h; have := may_cuts h; omega
  · omega
theorem keeps_yes {c : Cfg} {worker : Int} {k : Nat} {l : List Int} (h : l = ((List.range k).filter (fun s : Nat => (copiesM c (s : Int)).contains worker)).map (fun s : Nat => (s : Int))) (hc : (copiesM c (k : Int)).contains worker = true) :
    l ++ [(k : Int)] = ((List.range (k + 1)).filter (fun s : Nat => (copiesM c (s : Int)).contains worker)).map (fun s : Nat => (s : Int)) := by
  rw [h, List.range_succ, List.filter_append, List.map_append, List.filter_cons, if_pos hc]; rfl
theorem keeps_no {c : Cfg} {worker : Int} {k : Nat} {l : List Int} (h : l = ((List.range k).filter (fun s : Nat => (copiesM c (s : Int)).contains worker)).map (fun s : Nat => (s : Int))) (hc : (copiesM c (k : Int)).contains worker = false) :
    l = ((List.range (k + 1)).filter (fun s : Nat => (copiesM c (s : Int)).contains worker)).map (fun s : Nat => (s : Int)) := by
  rw [h, List.range_succ, List.filter_append, List.map_append, List.filter_cons, if_neg (by rw [hc]; exact Bool.false_ne_true)]; simp
/-! great -/
theorem greatT_long {l : List Str} {k : Nat} {x : Str} (hx : l[k]? = some x) (h : ((x.length : Nat) : Int) > 100) : true = greatT l := by
  unfold greatT; rw [any_yes hx (decide_eq_true (by omega))]; simp
theorem greatT_many {l : List Str} {b : Bool} (h : l.length > 80) (hb : b = decide (((l.length : Nat) : Int) > 80)) : b = greatT l := by
  rw [hb, decide_eq_true (by omega), greatT, decide_eq_true h]; rfl
theorem greatT_no {l : List Str} {k : Nat} {b : Bool} (h : (l.take k).any (fun s => decide (s.length > 100)) = false) (hk : l.length ≤ k) (h8 : l.length ≤ 80) (hb : b = decide (((l.length : Nat) : Int) > 80)) : b = greatT l := by
  rw [hb, decide_eq_false (by omega), greatT, any_of_take h hk, decide_eq_false (by omega)]; rfl
theorem greatC_cut {c : Cfg} {k : Nat} {x : Key} (hx : c.cuts[k]? = some x) (h : ((x.text.length : Nat) : Int) > 100) : true = greatC c := by
  unfold greatC; rw [any_yes hx (decide_eq_true (by omega))]; simp
theorem greatC_words {c : Cfg} (h : greatT c.words = true) : true = greatC c := by unfold greatC; rw [h]; simp
theorem greatC_no {c : Cfg} {k : Nat} {b : Bool} (h : (c.cuts.take k).any (fun s => decide (s.text.length > 100)) = false) (hk : c.cuts.length ≤ k ∨ c.cuts.length > 10) (hw : greatT c.words = false) (hb : b = decide (((c.cuts.length : Nat) : Int) > 10)) : b = greatC c := by
  rw [hb]
  unfold greatC
  rw [hw]
  by_cases h10 : c.cuts.length > 10
  · rw [decide_eq_true h10, decide_eq_true (by omega)]; simp
  · rw [decide_eq_false h10, decide_eq_false (by omega), any_of_take h (by omega)]; simp
theorem u64_range (x : Int) : 0 ≤ IntKind.u64.wrap x ∧ IntKind.u64.wrap x ≤ 18446744073709551615 := by
  simp only [IntKind.wrap, IntKind.bits, IntKind.signed]
  simp
  omega
theorem u64_same (n : Int) (h : 0 ≤ n ∧ n ≤ 9223372036854775807) : IntKind.u64.wrap n = n := IntWalk.u64_in n (by omega)
theorem low_range (x n : Int) (h : 1 ≤ n) : 0 ≤ lowM x n ∧ lowM x n < n := ⟨Int.emod_nonneg _ (by omega), Int.emod_lt_of_pos _ (by omega)⟩
theorem low_eq {x n : Int} (h : 1 ≤ n) (hn : I64 n) : IntKind.i64.wrap (IntKind.u64.wrap x % IntKind.u64.wrap n) = lowM x n := by
  have h1 := u64_same n ⟨by omega, hn.2⟩
  have h2 := low_range x n h
  rw [h1]
  exact IntWalk.i64_in _ ⟨by unfold lowM at h2; omega, by have := hn.2; unfold lowM at h2; omega⟩
theorem within_true {x l m : Int} (h : within x l m = true) : l ≤ x ∧ x ≤ m := by
  simp only [within, Bool.and_eq_true, decide_eq_true_eq] at h; omega
theorem within_false {x l m : Int} (h : within x l m = false) : x < l ∨ m < x := by
  simp only [within, Bool.and_eq_false_iff, decide_eq_false_iff_not] at h; omega
theorem may_bounds {c : Cfg} (h : may c = true) : 1 ≤ c.workers ∧ c.workers ≤ 5 ∧ 1 ≤ c.copies ∧ c.copies ≤ 3 ∧ c.copies ≤ c.workers ∧ c.words.length ≤ 60 ∧ c.cuts.length ≤ 5 := by
  have h1 := may_cuts h
  have h2 := may_words h
  simp only [may, nodesM, Bool.and_eq_true] at h
  have h3 := within_true h.2.1.1.1
  have h4 := within_true h.2.1.1.2
  omega
theorem may_of_shards {c : Cfg} (h : 0 < shards c) : may c = true := by
  unfold shards at h
  split at h
  · assumption
  · omega
theorem copies_yes {c : Cfg} {shard : Int} {j : Nat} {l : List Int} (hw : within shard 0 ((shards c : Int) - 1) = true) (hi : l = (List.range j).map (fun j : Nat => 1 + (shard + (j : Int)) % c.workers)) (hj : j = c.copies.toNat) : l = copiesM c shard := by
  subst hj; rw [hi, copiesM, if_pos hw]
theorem copies_no {c : Cfg} {shard : Int} (hw : within shard 0 ((shards c : Int) - 1) = false) : [] = copiesM c shard := by
  rw [copiesM, if_neg (by rw [hw]; exact Bool.false_ne_true)]
theorem greatT_end {l : List Str} {k : Nat} {b : Bool} (h : (l.take k).any (fun s => decide (s.length > 100)) = false) (hk : l.length ≤ k ∨ 80 < l.length) (hb : b = decide (((l.length : Nat) : Int) > 80)) : b = greatT l := by
  rw [hb]
  unfold greatT
  by_cases h8 : l.length > 80
  · rw [decide_eq_true h8, decide_eq_true (by omega)]; rfl
  · rw [decide_eq_false h8, decide_eq_false (by omega), any_of_take h (by omega)]; rfl
def Cfg.okB (c : Cfg) : Bool :=
  decide (I64 c.workers) && decide (I64 c.copies) && decide (I64 c.slots) && decide (I64 c.batch) && decide (I64 c.lease) && decide (I64 c.hedge) && decide (I64 c.first) && decide (I64 c.cap) && decide (I64 c.jitter) && decide (I64 c.net) &&
  (c.words.all fun s => decide (s.length ≤ 9223372036854775807)) && (c.cuts.all fun k => decide (I64 k.len) && decide (k.text.length ≤ 9223372036854775807))
theorem Cfg.ok_of {c : Cfg} (h : c.okB = true) : c.Ok := by
  simp only [Cfg.okB, Bool.and_eq_true, decide_eq_true_eq, List.all_eq_true] at h
  obtain ⟨⟨⟨⟨⟨⟨⟨⟨⟨⟨⟨h1, h2⟩, h3⟩, h4⟩, h5⟩, h6⟩, h7⟩, h8⟩, h9⟩, h10⟩, h11⟩, h12⟩ := h
  exact ⟨h1, h2, h3, h4, h5, h6, h7, h8, h9, h10, h11, h12⟩
structure Key.Ok (k : Key) : Prop where
  len : I64 k.len
  text : k.text.length ≤ 9223372036854775807
/-! merge -/
theorem head_cons {α : Type} {l : List α} {x : α} (h : l[0]? = some x) : l = x :: l.drop 1 := by
  cases l with
  | nil => simp at h
  | cons a l => simp at h; subst h; rfl
theorem merge_nil_right (a : List Str) : mergeL a [] = a := by cases a <;> simp [mergeL]
theorem merge_nil_left (b : List Str) : mergeL [] b = b := by simp [mergeL]
theorem merge_a0 {a b : List Str} {x : Str} (hx : a[0]? = some x) (hb : b.length = 0) : mergeL a b = x :: mergeL (a.drop 1) b := by
  have : b = [] := List.eq_nil_of_length_eq_zero hb
  subst this
  rw [merge_nil_right, merge_nil_right]; exact head_cons hx
theorem merge_a1 {a b : List Str} {x y : Str} (hx : a[0]? = some x) (hy : b[0]? = some y) (hc : Lib.compareBytes x y < 0) : mergeL a b = x :: mergeL (a.drop 1) b := by
  rw [head_cons hx, head_cons hy, mergeL, if_pos hc]; simp
theorem merge_eq {a b : List Str} {x y : Str} (hx : a[0]? = some x) (hy : b[0]? = some y) (hc : ¬ Lib.compareBytes x y < 0) (he : x = y) : mergeL a b = mergeL (a.drop 1) b := by
  rw [head_cons hx, head_cons hy, mergeL, if_neg hc, if_pos he]; simp
theorem merge_b1 {a b : List Str} {x y : Str} (hx : a[0]? = some x) (hy : b[0]? = some y) (hc : ¬ Lib.compareBytes x y < 0) (he : x ≠ y) : mergeL a b = y :: mergeL a (b.drop 1) := by
  rw [head_cons hx, head_cons hy, mergeL, if_neg hc, if_neg he]; simp
theorem merge_b0 {a b : List Str} {y : Str} (hy : b[0]? = some y) (ha : a.length = 0) : mergeL a b = y :: mergeL a (b.drop 1) := by
  have : a = [] := List.eq_nil_of_length_eq_zero ha
  subst this
  rw [merge_nil_left, merge_nil_left]; exact head_cons hy
theorem merge_step_a {a b l r : List Str} {x : Str} (hi : l ++ mergeL a b = r) (h : mergeL a b = x :: mergeL (a.drop 1) b) : (l ++ [x]) ++ mergeL (a.drop 1) b = r := by
  rw [← hi, h]; simp
theorem merge_step_b {a b l r : List Str} {x : Str} (hi : l ++ mergeL a b = r) (h : mergeL a b = x :: mergeL a (b.drop 1)) : (l ++ [x]) ++ mergeL a (b.drop 1) = r := by
  rw [← hi, h]; simp
theorem merge_step_e {a b l r : List Str} (hi : l ++ mergeL a b = r) (h : mergeL a b = mergeL (a.drop 1) b) : l ++ mergeL (a.drop 1) b = r := by
  rw [← hi, h]
theorem merge_end {a b l r : List Str} (hi : l ++ mergeL a b = r) (ha : a.length = 0) (hb : b.length = 0) : l = r := by
  have h1 : a = [] := List.eq_nil_of_length_eq_zero ha
  have h2 : b = [] := List.eq_nil_of_length_eq_zero hb
  subst h1; subst h2
  rw [← hi, merge_nil_left]; simp
end Go.Ml
