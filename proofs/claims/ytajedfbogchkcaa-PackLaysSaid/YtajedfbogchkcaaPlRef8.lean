/-
  The reference of chapter 8, plainly: a rune's bytes, first runes, what is left of rests.
-/
import Derived.Test.YtajedfbogchkcaaMGraphS
import Derived.Test.YtajedfbogchkcaaIkConv
import Derived.Test.YtajedfbogchkcaaPlList
set_option linter.unusedVariables false
set_option linter.unusedSimpArgs false
namespace Go.Ml
open Go.Ik

/-! a rune's bytes -/
theorem by8_N (n : Nat) : byN (n : Int) = by8 n := byN_nat n
theorem enc_b1 {r : Int} (h0 : 0 ≤ r) (h : r < 128) : [byN r] = encL r.toNat := by
  obtain ⟨c, rfl⟩ := Int.eq_ofNat_of_zero_le h0
  rw [Int.toNat_natCast]; unfold encL
  rw [if_pos (by omega), by8_N]
theorem enc_b2 {r : Int} (h0 : 0 ≤ r) (h : ¬ r < 128) (h2 : r < 2048) : [byN (192 + r / 64), byN (128 + r % 64)] = encL r.toNat := by
  obtain ⟨c, rfl⟩ := Int.eq_ofNat_of_zero_le h0
  rw [Int.toNat_natCast]; unfold encL
  rw [if_neg (by omega), if_pos (by omega), ← by8_N, ← by8_N]
  rfl
theorem enc_b3 {r : Int} (h0 : 0 ≤ r) (h : ¬ r < 128) (h2 : ¬ r < 2048) (h3 : r < 65536) : [byN (224 + r / 4096), byN (128 + r / 64 % 64), byN (128 + r % 64)] = encL r.toNat := by
  obtain ⟨c, rfl⟩ := Int.eq_ofNat_of_zero_le h0
  rw [Int.toNat_natCast]; unfold encL
  rw [if_neg (by omega), if_neg (by omega), if_pos (by omega), ← by8_N, ← by8_N, ← by8_N]
  rfl
theorem enc_b4 {r : Int} (h0 : 0 ≤ r) (h : ¬ r < 128) (h2 : ¬ r < 2048) (h3 : ¬ r < 65536) : [byN (240 + r / 262144), byN (128 + r / 4096 % 64), byN (128 + r / 64 % 64), byN (128 + r % 64)] = encL r.toNat := by
  obtain ⟨c, rfl⟩ := Int.eq_ofNat_of_zero_le h0
  rw [Int.toNat_natCast]; unfold encL
  rw [if_neg (by omega), if_neg (by omega), if_neg (by omega), ← by8_N, ← by8_N, ← by8_N, ← by8_N]
  rfl
/-! the text of runes -/
def encI_ (l : List Int) : Str := l.flatMap fun r => encL r.toNat
def rtext (l : List Int) : Str := if l.all goodR = true then encI_ l else []
theorem encI_take {l : List Int} {k : Nat} {x : Int} (hx : l[k]? = some x) : encI_ (l.take (k + 1)) = encI_ (l.take k) ++ encL x.toNat := by
  unfold encI_; rw [List.take_add_one, hx]; simp
theorem rtext_no {l : List Int} {k : Nat} {x : Int} (hx : l[k]? = some x) (h : goodR x = false) : ([] : Str) = rtext l ∧ false = l.all goodR := by
  have : l.all goodR = false := not_all hx h
  unfold rtext; rw [this]; exact ⟨rfl, rfl⟩
theorem rtext_yes {l : List Int} {k : Nat} {s : Str} (ha : (l.take k).all goodR = true) (hs : s = encI_ (l.take k)) (hk : l.length ≤ k) : s = rtext l ∧ true = l.all goodR := by
  rw [List.take_of_length_le hk] at ha hs
  unfold rtext; rw [if_pos ha, ha]; exact ⟨hs, rfl⟩
theorem encL_len4' (c : Nat) : (encL c).length ≤ 4 := encL_len4 c
theorem goodR_of {c : Nat} (h : goodN c) : goodR (c : Int) = true := by
  rw [good_d]; unfold goodN at h; exact decide_eq_true (by omega)
theorem goodR_rng {x : Int} (h : goodR x = true) : 0 ≤ x ∧ x ≤ 1114111 := by
  rw [good_d] at h
  have := of_decide_eq_true h
  omega
theorem fine_head {s : Str} (hf : Fine s) (hne : s ≠ []) : goodN (hdN s) ∧ encL (hdN s) = pfx s ∧ (runesM s)[0]? = some ((hdN s : Nat) : Int) ∧ 1 ≤ (runesM s).length := by
  have h1 := (encT_runes s hf).2 (hdN s) (by rw [runes_cons hne]; simp [hdN])
  have h2 := (enc_dec hne h1.2.2).2
  have h3 : runesM s = ((hdN s : Nat) : Int) :: (runes (s.drop (dec s).2)).map fun n : Nat => (n : Int) := by
    unfold runesM; rw [if_pos (fine_iff.2 hf)]; unfold runesI; rw [runes_cons hne]; rfl
  exact ⟨h1, h2, by rw [h3]; rfl, by rw [h3]; simp⟩
theorem rpfx {s : Str} (hf : Fine s) (hne : s ≠ []) : rtext ((runesM s).take 1) = pfx s := by
  obtain ⟨h1, h2, h3, h4⟩ := fine_head hf hne
  have h5 : (runesM s).take 1 = [((hdN s : Nat) : Int)] := by
    cases hl : runesM s with
    | nil => rw [hl] at h4; simp at h4
    | cons a r => rw [hl] at h3; simp at h3; simp [h3]
  rw [h5]; unfold rtext
  rw [if_pos (by simp [goodR_of h1])]
  unfold encI_; simp [h2]
theorem rpfx1 {s : Str} (hf : Fine s) (hne : s ≠ []) (h : ¬ (1 : Int) < ((runesM s).length : Int)) : rtext (runesM s) = pfx s := by
  rw [← rpfx hf hne, List.take_of_length_le (by omega)]
theorem dec_encL' {c : Nat} (hc : goodN c) (t : Str) : pfx (encL c ++ t) = encL c := by
  have h : runes (encL c ++ t) = c :: runes t := runes_app hc t
  have hne : encL c ++ t ≠ [] := by
    intro e
    rw [e] at h; simp [runes_nil] at h
  have hd : (dec (encL c ++ t)).1 = c := by
    rw [runes_cons hne] at h
    exact (List.cons.inj h).1
  have := (enc_dec hne (by rw [hd]; exact hc.2.2)).2
  rw [hd] at this
  exact this.symm
theorem no_find' {s : GS} {r : List Str} (h : ∀ x ∈ s, x.1 ≠ r) : (s.findIdx? fun x => x.1 == r) = none := by
  rw [List.findIdx?_eq_none_iff]
  intro x hx
  exact beq_eq_false_iff_ne.2 (h x hx)
theorem pfx_eq {x t : Str} (hx : Fine x) (hxn : x ≠ []) (ht : Fine t) (htn : t ≠ []) : (pfx t == pfx x) = (pfx x).isPrefixOf t := by
  obtain ⟨h1, h2, _⟩ := fine_head hx hxn
  rw [Bool.eq_iff_iff, beq_iff_eq]
  constructor
  · intro e; rw [← e]; exact pfx_is t
  · intro h
    have := prefix_drop h
    rw [← h2] at this ⊢
    rw [this]
    exact (dec_encL' h1 _)
/-! what is left of rests at a place -/
def remR (rests : List Str) (i : Nat) : List Str := if i = 0 then dropE rests else rests.drop i
theorem rem_zero (rests : List Str) : remR rests 0 = dropE rests := rfl
theorem pos_ne {l : List Str} (hs : Sorted l) {i : Nat} {x : Str} (hx : l[i]? = some x) (hi : 0 < i) : x ≠ [] := by
  have hlt := (List.getElem?_eq_some_iff.1 hx).1
  have h0 : l[0]? = some l[0] := List.getElem?_eq_getElem (by omega)
  have := sorted_at hs h0 hx hi
  intro e; subst e
  unfold ltT at this
  have h2 : Lib.compareBytes l[0] [] ≥ 0 := by
    cases l[0] with
    | nil => decide
    | cons a r => show (1 : Int) ≥ 0; omega
  omega
theorem ne_at {l : List Str} (hs : Sorted l) {k k1 : Nat} {x y : Str} (hx : l[k]? = some x) (hxn : x ≠ []) (hk : k ≤ k1) (hy : l[k1]? = some y) : y ≠ [] := by
  rcases Nat.eq_or_lt_of_le hk with e | h
  · subst e
    rw [hx] at hy; cases hy; exact hxn
  · exact pos_ne hs hy (by omega)
theorem runesM_r32 (s : Str) : ∀ x ∈ runesM s, -2147483648 ≤ x ∧ x ≤ 2147483647 := by
  intro x hx
  obtain ⟨k, hk⟩ := List.mem_iff_getElem?.1 hx
  have := runesM_rng hk
  omega
theorem rem_skip {rests : List Str} (hg : GoodR rests) {i : Nat} {x : Str} (hx : rests[i]? = some x) (he : x = []) : remR rests i = remR rests (i + 1) ∧ i = 0 := by
  have hi : i = 0 := by
    rcases Nat.eq_zero_or_pos i with h | h
    · exact h
    · exact absurd he (pos_ne hg.sorted hx h)
  subst hi
  refine ⟨?_, rfl⟩
  rw [rem_zero, (dropE_nil hx he).1]; rfl
theorem rem_grp {rests : List Str} {i : Nat} {x : Str} (hx : rests[i]? = some x) (hne : x ≠ []) : remR rests i = rests.drop i := by
  unfold remR
  split
  · rename_i h; subst h
    rw [(dropE_cons hx hne).1]; rfl
  · rfl
theorem rem_end {rests : List Str} {i : Nat} (h : rests.length ≤ i) : remR rests i = [] := by
  unfold remR
  split
  · have : rests = [] := List.eq_nil_of_length_eq_zero (by omega)
    subst this; rfl
  · exact List.drop_of_length_le h
theorem rem_pos {rests : List Str} {i : Nat} (h : 0 < i) : remR rests i = rests.drop i := by unfold remR; rw [if_neg (by omega)]
theorem rem_good {rests : List Str} {f : Nat} (hg : GoodR rests) (hd : Deep f rests) (i : Nat) : GoodR (remR rests i) ∧ (∀ t ∈ remR rests i, t ≠ []) ∧ Deep f (remR rests i) := by
  unfold remR
  split
  · have := dropE_good hg
    exact ⟨this.1, this.2, fun t ht => hd t (dropE_mem ht)⟩
  · rename_i hi
    refine ⟨⟨sorted_suffix hg.sorted (List.drop_suffix _ _), fun t ht => hg.fine t (List.mem_of_mem_drop ht)⟩, fun t ht => ?_, fun t ht => hd t (List.mem_of_mem_drop ht)⟩
    obtain ⟨k, hk⟩ := List.mem_iff_getElem?.1 ht
    rw [List.getElem?_drop] at hk
    exact pos_ne hg.sorted hk (by omega)
theorem rem_sum (rests : List Str) (i : Nat) : sumLen (remR rests i) ≤ sumLen rests := by
  unfold remR
  split
  · rw [sumLen_dropE]; exact Nat.le_refl _
  · have := sumLen_app (rests.take i) (rests.drop i)
    rw [List.take_append_drop] at this
    omega
theorem rem_len (rests : List Str) (i : Nat) : (remR rests i).length ≤ rests.length := by
  unfold remR
  split
  · exact dropE_len rests
  · simp
/-! looked for among names -/
theorem find_at {s : GS} {r : List Str} {k : Nat} {x : List Str × List Ed} (hno : ∀ y ∈ s.take k, y.1 ≠ r) (hx : s[k]? = some x) (he : x.1 = r) : (s.findIdx? fun x => x.1 == r) = some k := by
  obtain ⟨hk, rfl⟩ := List.getElem?_eq_some_iff.1 hx
  rw [List.findIdx?_eq_some_iff_getElem]
  refine ⟨hk, by simpa using he, fun j hj => ?_⟩
  have := hno s[j] (by rw [List.mem_take_iff_getElem]; exact ⟨j, by omega, rfl⟩)
  simpa using this
theorem find_step {s : GS} {r : List Str} {k : Nat} {x : List Str × List Ed} (hno : ∀ y ∈ s.take k, y.1 ≠ r) (hx : s[k]? = some x) (he : x.1 ≠ r) : ∀ y ∈ s.take (k + 1), y.1 ≠ r := by
  intro y hy
  rw [List.take_add_one, hx] at hy
  simp only [Option.toList_some, List.mem_append, List.mem_singleton] at hy
  rcases hy with hy | rfl
  · exact hno y hy
  · exact he
theorem find_no {s : GS} {r : List Str} {k : Nat} (hno : ∀ y ∈ s.take k, y.1 ≠ r) (hk : s.length ≤ k) : (s.findIdx? fun x => x.1 == r) = none := by
  rw [List.take_of_length_le hk] at hno
  exact no_find' hno
theorem names_put' {s : GS} {rests : List Str} (hf : (s.findIdx? fun x => x.1 == rests) = none) (hnd : (names s).Nodup) : (names (s ++ (rests, []) :: [])).Nodup := by
  have hno := findIdx_none hf
  unfold names
  rw [List.map_append, List.nodup_append]
  refine ⟨hnd, by simp, fun a ha b hb => ?_⟩
  simp only [List.map_cons, List.map_nil, List.mem_singleton] at hb
  subst hb
  exact fun e => hno (by rw [← e]; exact ha)
theorem addM_nodup {f : Nat} {s : GS} {rests : List Str} (hd : Deep f rests) (hg : GoodR rests) (hne : rests ≠ []) (hn : (names s).Nodup) : (names (addM (f + 1) s rests).1).Nodup := (addM_ok f s rests hd hg hne hn).apart
end Go.Ml
