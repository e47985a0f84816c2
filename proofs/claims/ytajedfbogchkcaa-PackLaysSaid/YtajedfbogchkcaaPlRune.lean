/-
  A rune's bytes and back: encoding and decoding of runes that are well made; no program in sight.
-/
import Derived.Test.YtajedfbogchkcaaPlRef1
set_option linter.unusedVariables false
set_option linter.unusedSimpArgs false
namespace Go.Ml
open Go.Ik

/-- a rune that may stand in a text -/
def goodN (c : Nat) : Prop := c ≤ 1114111 ∧ (c < 55296 ∨ 57343 < c) ∧ c ≠ 65533
def by8 (n : Nat) : UInt8 := UInt8.ofNat n
/-- its bytes -/
def encL (c : Nat) : Str :=
  if c < 128 then [by8 c] else if c < 2048 then [by8 (192 + c / 64), by8 (128 + c % 64)]
  else if c < 65536 then [by8 (224 + c / 4096), by8 (128 + c / 64 % 64), by8 (128 + c % 64)]
  else [by8 (240 + c / 262144), by8 (128 + c / 4096 % 64), by8 (128 + c / 64 % 64), by8 (128 + c % 64)]
theorem encR_gen (r : Int) (h : Utf8.valid r = true) : encR r = encL r.toNat := by
  unfold encR Utf8.encode encL by8
  simp only [h, if_true]
  by_cases h1 : r.toNat < 128
  · rw [if_pos h1, if_pos h1]
  · rw [if_neg h1, if_neg h1]
    by_cases h2 : r.toNat < 2048
    · rw [if_pos h2, if_pos h2]
    · rw [if_neg h2, if_neg h2]
      by_cases h3 : r.toNat < 65536
      · rw [if_pos h3, if_pos h3]
      · rw [if_neg h3, if_neg h3]
theorem encR_L {c : Nat} (h : goodN c) : encR (c : Int) = encL c := by
  have hv : Utf8.valid (c : Int) = true := by rw [valid_P]; exact decide_eq_true (by unfold goodN at h; omega)
  have := encR_gen _ hv
  rwa [Int.toNat_natCast] at this
theorem by8_toNat (n : Nat) : (by8 n).toNat = n % 256 := by unfold by8; simp
theorem by8_at (s : Str) (k : Nat) (h : k < s.length) : by8 (byteAt s k) = s[k] := by
  rw [byteAt_eq h]; unfold by8; simp
theorem by8_congr {a b : Nat} (h : a = b) : by8 a = by8 b := by rw [h]
theorem take_one {s : Str} (h : 1 ≤ s.length) : s.take 1 = [by8 (byteAt s 0)] := by
  rw [by8_at s 0 (by omega)]
  match s, h with
  | a :: r, _ => rfl
theorem take_two {s : Str} (h : 2 ≤ s.length) : s.take 2 = [by8 (byteAt s 0), by8 (byteAt s 1)] := by
  rw [by8_at s 0 (by omega), by8_at s 1 (by omega)]
  match s, h with
  | a :: b :: r, _ => rfl
theorem take_three {s : Str} (h : 3 ≤ s.length) : s.take 3 = [by8 (byteAt s 0), by8 (byteAt s 1), by8 (byteAt s 2)] := by
  rw [by8_at s 0 (by omega), by8_at s 1 (by omega), by8_at s 2 (by omega)]
  match s, h with
  | a :: b :: c :: r, _ => rfl
theorem take_four {s : Str} (h : 4 ≤ s.length) : s.take 4 = [by8 (byteAt s 0), by8 (byteAt s 1), by8 (byteAt s 2), by8 (byteAt s 3)] := by
  rw [by8_at s 0 (by omega), by8_at s 1 (by omega), by8_at s 2 (by omega), by8_at s 3 (by omega)]
  match s, h with
  | a :: b :: c :: d :: r, _ => rfl

/-- a decoded rune that is well made, encoded again, is the bytes that were read -/
theorem enc_dec {s : Str} (hs : s ≠ []) (h : (dec s).1 ≠ 65533) : goodN (dec s).1 ∧ encL (dec s).1 = s.take (dec s).2 := by
  have hl : 1 ≤ s.length := by cases s with | nil => exact absurd rfl hs | cons a r => simp
  have hd := dec_A s 0
  rw [List.drop_zero] at hd
  rw [hd] at h ⊢
  have b0 := byteAt_lt s 0; have b1 := byteAt_lt s 1; have b2 := byteAt_lt s 2; have b3 := byteAt_lt s 3
  have c1 : contAt s 1 = true → 1 < s.length ∧ 128 ≤ byteAt s 1 ∧ byteAt s 1 ≤ 191 := fun h => cont_iff.1 h
  have c2 : contAt s 2 = true → 2 < s.length ∧ 128 ≤ byteAt s 2 ∧ byteAt s 2 ≤ 191 := fun h => cont_iff.1 h
  have c3 : contAt s 3 = true → 3 < s.length ∧ 128 ≤ byteAt s 3 ∧ byteAt s 3 ≤ 191 := fun h => cont_iff.1 h
  simp only [Nat.zero_add] at h ⊢
  unfold decA at h ⊢
  simp only [valid_P, Bool.and_eq_true, beq_iff_eq, decide_eq_true_eq] at h ⊢
  split
  · rename_i h0
    refine ⟨⟨by omega, by omega, by omega⟩, ?_⟩
    unfold encL
    rw [if_pos h0, take_one hl]
  · rename_i h0
    rw [if_neg h0] at h
    split
    · rename_i h1
      rw [if_pos h1] at h
      have := c1 h1.2
      split
      · rename_i h2
        rw [if_pos h2] at h
        refine ⟨⟨by omega, by omega, h⟩, ?_⟩
        simp only
        unfold encL
        rw [if_neg (by omega), if_pos (by omega), take_two (by omega)]
        congr 1
        · exact by8_congr (by omega)
        · congr 1; exact by8_congr (by omega)
      · rename_i h2; rw [if_neg h2] at h; exact absurd rfl h
    · rename_i h1
      rw [if_neg h1] at h
      split
      · rename_i h2
        rw [if_pos h2] at h
        have := c1 h2.1.2; have := c2 h2.2
        split
        · rename_i h3
          rw [if_pos h3] at h
          simp only at h
          refine ⟨⟨by omega, by omega, h⟩, ?_⟩
          simp only
          unfold encL
          rw [if_neg (by omega), if_neg (by omega), if_pos (by omega), take_three (by omega)]
          congr 1
          · exact by8_congr (by omega)
          · congr 1
            · exact by8_congr (by omega)
            · congr 1; exact by8_congr (by omega)
        · rename_i h3; rw [if_neg h3] at h; exact absurd rfl h
      · rename_i h2
        rw [if_neg h2] at h
        split
        · rename_i h3
          rw [if_pos h3] at h
          have := c1 h3.1.1.2; have := c2 h3.1.2; have := c3 h3.2
          split
          · rename_i h4
            rw [if_pos h4] at h
            simp only at h
            refine ⟨⟨by omega, by omega, h⟩, ?_⟩
            simp only
            unfold encL
            rw [if_neg (by omega), if_neg (by omega), if_neg (by omega), take_four (by omega)]
            congr 1
            · exact by8_congr (by omega)
            · congr 1
              · exact by8_congr (by omega)
              · congr 1
                · exact by8_congr (by omega)
                · congr 1; exact by8_congr (by omega)
          · rename_i h4; rw [if_neg h4] at h; exact absurd rfl h
        · rename_i h3; rw [if_neg h3] at h; exact absurd rfl h

theorem at0 (a : UInt8) (s : Str) : byteAt (a :: s) 0 = a.toNat := rfl
theorem at1 (a b : UInt8) (s : Str) : byteAt (a :: b :: s) 1 = b.toNat := rfl
theorem at2 (a b c : UInt8) (s : Str) : byteAt (a :: b :: c :: s) 2 = c.toNat := rfl
theorem at3 (a b c d : UInt8) (s : Str) : byteAt (a :: b :: c :: d :: s) 3 = d.toNat := rfl
theorem cont_pos {s : Str} {k : Nat} (h : k < s.length ∧ 128 ≤ byteAt s k ∧ byteAt s k ≤ 191) : contAt s k = true := cont_iff.2 h
/-- a rune's bytes, read, are the rune -/
theorem dec_enc {c : Nat} (h : goodN c) (t : Str) : dec (encL c ++ t) = (c, (encL c).length) := by
  have hd := dec_A (encL c ++ t) 0
  rw [List.drop_zero] at hd
  rw [hd]
  obtain ⟨h1, h2, h3⟩ := h
  unfold encL
  simp only [Nat.zero_add]
  split
  · rename_i h0
    simp only [List.cons_append, List.nil_append, at0, by8_toNat]
    unfold decA
    rw [if_pos (by omega)]
    simp only [List.length_cons, List.length_nil, Prod.mk.injEq, and_true]; omega
  · rename_i h0
    split
    · rename_i h00
      have k1 : contAt ([by8 (192 + c / 64), by8 (128 + c % 64)] ++ t) 1 = true := cont_pos (by simp only [List.cons_append, List.nil_append, at1, by8_toNat, List.length_cons]; omega)
      rw [k1]
      simp only [List.cons_append, List.nil_append, at0, at1, by8_toNat]
      unfold decA
      rw [if_neg (by omega), if_pos (by simp only [Bool.and_true, beq_iff_eq]; omega), if_pos (by omega)]
      simp only [List.length_cons, List.length_nil, Prod.mk.injEq, and_true]; omega
    · rename_i h00
      split
      · rename_i h000
        have k1 : contAt ([by8 (224 + c / 4096), by8 (128 + c / 64 % 64), by8 (128 + c % 64)] ++ t) 1 = true := cont_pos (by simp only [List.cons_append, List.nil_append, at1, by8_toNat, List.length_cons]; omega)
        have k2 : contAt ([by8 (224 + c / 4096), by8 (128 + c / 64 % 64), by8 (128 + c % 64)] ++ t) 2 = true := cont_pos (by simp only [List.cons_append, List.nil_append, at2, by8_toNat, List.length_cons]; omega)
        rw [k1, k2]
        simp only [List.cons_append, List.nil_append, at0, at1, at2, by8_toNat]
        unfold decA
        rw [if_neg (by omega), if_neg (by simp only [Bool.and_true, beq_iff_eq]; omega), if_pos (by simp only [Bool.and_true, beq_iff_eq]; omega), if_pos (by rw [valid_P]; simp only [Bool.and_eq_true, decide_eq_true_eq]; omega)]
        simp only [List.length_cons, List.length_nil, Prod.mk.injEq, and_true]; omega
      · rename_i h000
        have k1 : contAt ([by8 (240 + c / 262144), by8 (128 + c / 4096 % 64), by8 (128 + c / 64 % 64), by8 (128 + c % 64)] ++ t) 1 = true := cont_pos (by simp only [List.cons_append, List.nil_append, at1, by8_toNat, List.length_cons]; omega)
        have k2 : contAt ([by8 (240 + c / 262144), by8 (128 + c / 4096 % 64), by8 (128 + c / 64 % 64), by8 (128 + c % 64)] ++ t) 2 = true := cont_pos (by simp only [List.cons_append, List.nil_append, at2, by8_toNat, List.length_cons]; omega)
        have k3 : contAt ([by8 (240 + c / 262144), by8 (128 + c / 4096 % 64), by8 (128 + c / 64 % 64), by8 (128 + c % 64)] ++ t) 3 = true := cont_pos (by simp only [List.cons_append, List.nil_append, at3, by8_toNat, List.length_cons]; omega)
        rw [k1, k2, k3]
        simp only [List.cons_append, List.nil_append, at0, at1, at2, at3, by8_toNat]
        unfold decA
        rw [if_neg (by omega), if_neg (by simp only [Bool.and_true, beq_iff_eq]; omega), if_neg (by simp only [Bool.and_true, beq_iff_eq]; omega), if_pos (by simp only [Bool.and_true, beq_iff_eq]; omega), if_pos (by rw [valid_P]; simp only [Bool.and_eq_true, decide_eq_true_eq]; omega)]
        simp only [List.length_cons, List.length_nil, Prod.mk.injEq, and_true]; omega

/-- a text without odd bytes -/
def Fine (s : Str) : Prop := 65533 ∉ runes s
theorem fine_iff {s : Str} : fineT s = true ↔ Fine s := by unfold fineT Fine; exact decide_eq_true_iff
theorem Fine.nil : Fine [] := by unfold Fine; rw [runes_nil]; simp
theorem fine_cons {s : Str} (hs : s ≠ []) : Fine s ↔ (dec s).1 ≠ 65533 ∧ Fine (s.drop (dec s).2) := by
  unfold Fine
  rw [runes_cons hs, List.mem_cons, not_or]
  exact ⟨fun h => ⟨fun e => h.1 e.symm, h.2⟩, fun h => ⟨fun e => h.1 e.symm, h.2⟩⟩
theorem Fine.split {s : Str} (h : Fine s) (hs : s ≠ []) : goodN (dec s).1 ∧ s = encL (dec s).1 ++ s.drop (dec s).2 ∧ Fine (s.drop (dec s).2) := by
  have h1 := (fine_cons hs).1 h
  have h2 := enc_dec hs h1.1
  exact ⟨h2.1, by rw [h2.2, List.take_append_drop], h1.2⟩
theorem encL_ne (c : Nat) : encL c ≠ [] := by
  unfold encL; repeat' split
  all_goals simp
theorem encL_pos (c : Nat) : 1 ≤ (encL c).length := by
  unfold encL; repeat' split
  all_goals simp
theorem Fine.app {c : Nat} {t : Str} (hc : goodN c) (ht : Fine t) : Fine (encL c ++ t) := by
  have hne : encL c ++ t ≠ [] := by simp [encL_ne]
  rw [fine_cons hne, dec_enc hc t]
  simp only [List.drop_left]
  exact ⟨hc.2.2, ht⟩
theorem runes_app {c : Nat} (hc : goodN c) (t : Str) : runes (encL c ++ t) = c :: runes t := by
  have hne : encL c ++ t ≠ [] := by simp [encL_ne]
  rw [runes_cons hne, dec_enc hc t]
  simp only [List.drop_left]
/-- a text of runes -/
def encT (rs : List Nat) : Str := rs.flatMap encL
theorem runes_encT : ∀ (rs : List Nat), (∀ c ∈ rs, goodN c) → runes (encT rs) = rs
  | [], _ => runes_nil
  | c :: rs, h => by
    show runes (encL c ++ encT rs) = _
    rw [runes_app (h c (by simp)), runes_encT rs fun c hc => h c (by simp [hc])]
theorem fine_encT (rs : List Nat) (h : ∀ c ∈ rs, goodN c) : Fine (encT rs) := by
  unfold Fine
  rw [runes_encT rs h]
  exact fun hm => (h _ hm).2.2 rfl
theorem fine_ind {p : Str → Prop} (h0 : p []) (h1 : ∀ c t, goodN c → Fine t → p t → p (encL c ++ t)) : ∀ s, Fine s → p s := by
  have : ∀ n s, s.length ≤ n → Fine s → p s := by
    intro n
    induction n with
    | zero => intro s hs _; have : s = [] := List.eq_nil_of_length_eq_zero (by omega); subst this; exact h0
    | succ n ih =>
      intro s hs hf
      by_cases he : s = []
      · subst he; exact h0
      · obtain ⟨g1, g2, g3⟩ := hf.split he
        have := dec_pos s he
        rw [g2]
        exact h1 _ _ g1 g3 (ih _ (by rw [List.length_drop]; omega) g3)
  exact fun s hf => this _ s (Nat.le_refl _) hf
theorem encT_runes (s : Str) (h : Fine s) : encT (runes s) = s ∧ ∀ c ∈ runes s, goodN c := by
  revert s
  refine fine_ind ⟨by rw [runes_nil]; rfl, by rw [runes_nil]; simp⟩ ?_
  intro c t hc ht ih
  rw [runes_app hc]
  refine ⟨by show encL c ++ encT (runes t) = _; rw [ih.1], fun d hd => ?_⟩
  rcases List.mem_cons.1 hd with rfl | hd
  · exact hc
  · exact ih.2 d hd
theorem lenT_fine {s : Str} (h : Fine s) : lenT s = ((runes s).length : Int) := by unfold lenT; rw [if_neg h]
theorem fine_of_len {s : Str} (h : 0 ≤ lenT s) : Fine s := by
  unfold lenT at h
  split at h
  · omega
  · assumption
theorem fine_of_word {s : Str} (h : word s = true) : Fine s ∧ 1 ≤ (runes s).length ∧ (runes s).length ≤ 12 := by
  unfold word at h
  simp only [Bool.and_eq_true, decide_eq_true_eq] at h
  have hf := fine_of_len (by omega : 0 ≤ lenT s)
  rw [lenT_fine hf] at h
  exact ⟨hf, by omega, by omega⟩
/-- no rune's bytes begin another one's -/
theorem encL_inj {a b : Nat} {s t : Str} (ha : goodN a) (hb : goodN b) (h : encL a ++ s = encL b ++ t) : a = b ∧ s = t := by
  have h1 := dec_enc ha s
  rw [h, dec_enc hb t] at h1
  simp only [Prod.mk.injEq] at h1
  obtain ⟨h2, h3⟩ := h1
  subst h2
  exact ⟨rfl, List.append_cancel_left h⟩
end Go.Ml
