import Derived.Test.YtjhbobjjkbppkaaLibD
import Derived.Room.Shelf.Join48
/-
  Plain laws of chapter 11: levels; a word that is asked for.
-/
set_option linter.unusedVariables false
set_option linter.unusedSimpArgs false
namespace Go.Ml
open Go.Ik

theorem good_without {a b : List Str} (h : goodL a = 0) : goodL (withoutM a b) = 0 := by
  obtain ⟨h1, h2, h3⟩ := good_words h
  exact sorted_goodL (without_sorted h3) (fun w hw => h2 w (without_mem.1 hw).1) (Nat.le_trans (without_len a b) h1)
theorem levels_dists {words part : List Str} {s : Str} {d : Int} (hg : goodL words = 0) : distsA (gnodes (withoutM words part)) (withoutM words part) s d = withoutM (distsA (gnodes words) words s d) part := by
  have h2 := good_without (b := part) hg
  unfold distsA
  by_cases hc : asked s = true ∧ 0 ≤ d ∧ d ≤ 4
  · rw [if_pos (mayA_yes (gnodes_pos h2) hc.2 hc.1), if_pos (mayA_yes (gnodes_pos hg) hc.2 hc.1)]
    unfold distsM withoutM
    rw [List.filter_filter, List.filter_filter]
    exact List.filter_congr fun x _ => Bool.and_comm _ _
  · rw [if_neg (fun h => hc ⟨(mayA_iff.1 h).2.2, (mayA_iff.1 h).2.1⟩), if_neg (fun h => hc ⟨(mayA_iff.1 h).2.2, (mayA_iff.1 h).2.1⟩)]; rfl
theorem distsA_eq {words : List Str} {s : Str} {d : Int} (hg : goodL words = 0) (ha : asked s = true) (hd : 0 ≤ d ∧ d ≤ 4) : distsA (gnodes words) words s d = distsM words (runesI s) d := by
  unfold distsA; rw [if_pos (mayA_yes (gnodes_pos hg) hd ha)]
theorem lv_start {words : List Str} {q : List Int} {d : Nat} {all : List Itm} {x : List Str} (h : all = itemsM words q d) : all = itemsM words q d ++ (x.take 0).map (Itm.mk (d : Int)) := by simp [h]
theorem lv_step {words : List Str} {q : List Int} {d i : Nat} {all : List Itm} {x : List Str} {w : Str} (h : all = itemsM words q d ++ (x.take i).map (Itm.mk (d : Int))) (hx : x[i]? = some w) : all ++ [Itm.mk (d : Int) w] = itemsM words q d ++ (x.take (i + 1)).map (Itm.mk (d : Int)) := by
  rw [h, List.take_add_one, hx, List.map_append, List.append_assoc]; rfl
theorem lv_next {words : List Str} {s : Str} {d i : Nat} {all : List Itm} (hg : goodL words = 0) (ha : asked s = true) (hd : d ≤ 4) (h : all = itemsM words (runesI s) d ++ ((distsA (gnodes words) words s d).take i).map (Itm.mk (d : Int))) (hi : (distsA (gnodes words) words s d).length ≤ i) : all = itemsM words (runesI s) (d + 1) := by
  rw [h, List.take_of_length_le hi, distsA_eq hg ha (by omega), itemsM_succ]
theorem itemsM_len {words : List Str} {s : Str} {n : Nat} (hg : goodL words = 0) (ha : asked s = true) : (itemsM words (runesI s) n).length ≤ words.length := by
  cases n with
  | zero => simp [itemsM]
  | succ n =>
    have := refAll_items (k := (n : Int)) (good_sorted hg) (good_fineT hg) (asked_fine ha) (by omega)
    rw [show (n : Int).toNat + 1 = n + 1 from by omega] at this
    rw [← this]; exact refAll_len _ _ _
theorem lv_all {words : List Str} {s : Str} {k : Int} {after : Itm} {b : Int} (hg : goodL words = 0) (ha : asked s = true) (hk : 0 ≤ k ∧ k ≤ 4) (hb : 60 ≤ b) : nextA (gnodes words) words s k true after b = (itemsM words (runesI s) (k.toNat + 1), true) := by
  have hl := itemsM_len (n := k.toNat + 1) hg ha
  have h60 := good_len hg
  rw [nextA_eq hg ha hk (by omega)]
  have hf : (itemsM words (runesI s) (k.toNat + 1)).filter (okI true after) = itemsM words (runesI s) (k.toNat + 1) := List.filter_eq_self.2 fun x _ => rfl
  rw [hf, List.take_of_length_le (by omega), decide_eq_true (by omega)]
/-! no distance -/
theorem row_zero (q : List Int) : ∀ (p : List Int) (i : Nat), i ≤ q.length → rowF q p i = 0 → p = q.take i := by
  refine snocInd (fun i hi h => ?_) fun p r ih => ?_
  · rw [rowF_nil] at h
    have : i = 0 := by omega
    subst this; simp
  · intro i hi h
    rw [rowF_snoc] at h
    have hlip := lip_row q p
    cases i with
    | zero =>
      unfold stepF at h
      have := hlip.pos 0; omega
    | succ i =>
      have h1 := hlip.pos (i + 1)
      have h2 := step_pos (q := q) (r := r) hlip i
      have h3 := hlip.pos i
      have hs : min (min (rowF q p (i + 1) + 1) (stepF q (rowF q p) r i + 1)) (rowF q p i + if q[i]? = some r then 0 else 1) = 0 := h
      by_cases hc : q[i]? = some r
      · rw [if_pos hc] at hs
        rw [List.take_add_one, hc, ← ih i (by omega) (by omega)]; rfl
      · rw [if_neg hc] at hs; omega
theorem row_diag (q : List Int) : ∀ i : Nat, i ≤ q.length → rowF q (q.take i) i = 0
  | 0, _ => by simp [rowF_nil]
  | i + 1, hi => by
    obtain ⟨r, hr⟩ : ∃ r, q[i]? = some r := ⟨_, List.getElem?_eq_getElem (by omega)⟩
    have ih := row_diag q i (by omega)
    have hlip := lip_row q (q.take i)
    rw [List.take_add_one, hr]
    show rowF q (q.take i ++ [r]) (i + 1) = 0
    rw [rowF_snoc]
    have h1 := hlip.pos (i + 1)
    have h2 := step_pos (q := q) (r := r) hlip i
    show min (min (rowF q (q.take i) (i + 1) + 1) (stepF q (rowF q (q.take i)) r i + 1)) (rowF q (q.take i) i + if q[i]? = some r then 0 else 1) = 0
    rw [if_pos hr, ih]; omega
theorem lev_zero {q p : List Int} : lev q p = 0 ↔ p = q := by
  constructor
  · intro h
    have := row_zero q p q.length (Nat.le_refl _) h
    rw [this, List.take_length]
  · rintro rfl
    have := row_diag p p.length (Nat.le_refl _)
    rw [List.take_length] at this
    exact this
theorem runesI_inj {a b : Str} (ha : fineT a = true) (hb : fineT b = true) (h : runesI a = runesI b) : a = b := by
  have h1 : runes a = runes b := by
    unfold runesI at h
    exact List.map_inj_right (fun x y e => by have e' : (x : Int) = (y : Int) := e; omega) |>.1 h
  have fa : Fine a := by unfold fineT at ha; exact (show 65533 ∉ runes a from of_decide_eq_true ha)
  have fb : Fine b := by unfold fineT at hb; exact (show 65533 ∉ runes b from of_decide_eq_true hb)
  rw [← (encT_runes a fa).1, ← (encT_runes b fb).1, h1]
theorem dists_zero {words : List Str} {w : Str} (hs : Sorted words) (hf : ∀ x ∈ words, fineT x = true) (hw : w ∈ words) : distsM words (runesI w) 0 = [w] := by
  have hn := sorted_nodup hs
  have he : distsM words (runesI w) 0 = words.filter (fun x => x == w) := by
    unfold distsM
    refine List.filter_congr fun x hx => ?_
    unfold nearW
    rw [Bool.eq_iff_iff, decide_eq_true_eq, beq_iff_eq, lev_zero]
    constructor
    · intro h; exact runesI_inj (hf x hx) (hf w hw) h
    · rintro rfl; rfl
  rw [he]
  clear he hs hf
  induction words with
  | nil => simp at hw
  | cons a l ih =>
    rw [List.nodup_cons] at hn
    rcases List.mem_cons.1 hw with rfl | hw
    · rw [List.filter_cons_of_pos (by simp)]
      congr 1
      rw [List.filter_eq_nil_iff]
      intro x hx
      simp only [beq_iff_eq]
      rintro rfl
      exact hn.1 hx
    · rw [List.filter_cons_of_neg (by simp only [beq_iff_eq]; rintro rfl; exact hn.1 hw)]
      exact ih hw hn.2
structure OwnL (words : List Str) (w : Str) (k : Int) (I : List Itm) : Prop where
  pos : 1 ≤ I.length
  le : I.length ≤ 60
  one : nextA (gnodes words) words w k true (Itm.mk 0 []) 1 = ([Itm.mk 0 w], decide (I.length ≤ 1))
  all : nextA (gnodes words) words w k true (Itm.mk 0 []) 60 = (I, true)
  rest : nextA (gnodes words) words w k false (Itm.mk 0 w) 60 = (I.drop 1, true)
theorem word_asked {w : Str} (h : word w = true) : asked w = true := by
  unfold word at h
  unfold asked
  simp only [Bool.and_eq_true, decide_eq_true_eq] at h ⊢
  omega
theorem own_law {words : List Str} {w : Str} {k : Int} (hg : goodL words = 0) (hw : w ∈ words) (hk : 0 ≤ k ∧ k ≤ 4) : ∃ I, OwnL words w k I := by
  have ha := word_asked ((good_words hg).2.1 w hw)
  have hs := good_sorted hg
  have hf := good_fineT hg
  have h60 := good_len hg
  have hhead : ∀ n, ∃ T, itemsM words (runesI w) (n + 1) = Itm.mk 0 w :: T := by
    intro n
    induction n with
    | zero => exact ⟨[], by rw [itemsM_succ]; simp [itemsM, dists_zero hs hf hw]⟩
    | succ n ih =>
      obtain ⟨T, hT⟩ := ih
      exact ⟨_, by rw [itemsM_succ, hT]; rfl⟩
  obtain ⟨T, hT⟩ := hhead k.toNat
  have hlen := itemsM_len (n := k.toNat + 1) hg ha
  have hsort := itemsM_sorted (q := runesI w) hs (k.toNat + 1)
  have hft : ∀ after, (itemsM words (runesI w) (k.toNat + 1)).filter (okI true after) = itemsM words (runesI w) (k.toNat + 1) := fun after => List.filter_eq_self.2 fun x _ => rfl
  refine ⟨itemsM words (runesI w) (k.toNat + 1), by rw [hT]; simp, by omega, ?_, lv_all hg ha hk (by omega), ?_⟩
  · rw [nextA_eq hg ha hk (by omega), hft]
    congr 1
    rw [hT]; rfl
  · have hz : ((itemsM words (runesI w) (k.toNat + 1)).filter (okI true (Itm.mk 0 [])))[0]? = some (Itm.mk 0 w) := by rw [hft, hT]; rfl
    have hb := filter_behind hsort hz
    rw [nextA_eq hg ha hk (by omega), hb, hft, List.take_of_length_le (by rw [List.length_drop]; omega), decide_eq_true (by rw [List.length_drop]; omega)]
end Go.Ml
theorem Go.Ml.own_end {I : List Go.Ml.Itm} (h : 1 ≤ I.length) : decide (I.length ≤ 1) = (((I.length : Nat) : Int) == 1) := by
  by_cases hc : I.length ≤ 1
  · rw [decide_eq_true hc]; symm; rw [beq_iff_eq]; omega
  · rw [decide_eq_false hc]; symm; rw [beq_eq_false_iff_ne]; omega
/-
  Plain law of chapter 11: other runes in the place of bytes below 128.
-/
set_option linter.unusedVariables false
set_option linter.unusedSimpArgs false
namespace Go.Ml
open Go.Ik

def upB (a : UInt8) : Str := encL (128512 + a.toNat)
def upM (s : Str) : Str := s.flatMap upB
theorem up_good (a : UInt8) : goodN (128512 + a.toNat) := by
  have := a.toNat_lt
  unfold goodN; omega
theorem upM_cons (a : UInt8) (s : Str) : upM (a :: s) = upB a ++ upM s := rfl
theorem upM_nil : upM [] = [] := rfl
theorem upB_len (a : UInt8) : (upB a).length = 4 := by
  have := a.toNat_lt
  unfold upB encL
  rw [if_neg (by omega), if_neg (by omega), if_neg (by omega)]; rfl
theorem upM_len (s : Str) : (upM s).length = 4 * s.length := by
  induction s with
  | nil => rfl
  | cons a s ih => rw [upM_cons, List.length_append, upB_len, ih, List.length_cons]; omega
theorem up_run {s : Str} {i : Nat} {b : Int} {rs : List Int} {x : UInt8} (h : rs = (s.take i).map fun a => (128512 + (a.toNat : Int))) (hx : s[i]? = some x) (hb : b = 128512 + (x.toNat : Int)) : rs ++ [b] = (s.take (i + 1)).map fun a => (128512 + (a.toNat : Int)) := by
  rw [h, hb, List.take_add_one, hx, List.map_append]; rfl
theorem up_runB {s : Str} {i : Nat} {b : Int} {rs : List Int} (h : rs = (s.take i).map fun a => (128512 + (a.toNat : Int))) (hi : i < s.length) (hb : b = 128512 + (byteAt s i : Int)) : rs ++ [b] = (s.take (i + 1)).map fun a => (128512 + (a.toNat : Int)) :=
  up_run h (List.getElem?_eq_getElem hi) (by rw [hb, byteAt_eq hi])
theorem up_text (s : Str) : (s.map fun a => (128512 + (a.toNat : Int))).flatMap encR = upM s := by
  induction s with
  | nil => rfl
  | cons a s ih =>
    rw [List.map_cons, List.flatMap_cons, ih, upM_cons]
    have h := encR_L (up_good a)
    rw [Int.natCast_add] at h
    unfold upB
    rw [← h]; rfl
theorem up_end {s : Str} {i : Nat} {rs : List Int} (h : rs = (s.take i).map fun a => (128512 + (a.toNat : Int))) (hi : s.length ≤ i) : rs.flatMap encR = upM s := by
  rw [h, List.take_of_length_le hi, up_text]
theorem upM_enc (s : Str) : upM s = encT (s.map fun a => 128512 + a.toNat) := by
  induction s with
  | nil => rfl
  | cons a s ih => rw [upM_cons, ih]; rfl
theorem runes_up (s : Str) : runes (upM s) = s.map fun a => 128512 + a.toNat := by
  rw [upM_enc, runes_encT]
  intro c hc
  obtain ⟨a, _, rfl⟩ := List.mem_map.1 hc
  exact up_good a
/-- bytes below 128 alone -/
def LowS (s : Str) : Prop := ∀ b ∈ s, b.toNat < 128
theorem low_one {a : UInt8} (h : a.toNat < 128) : goodN a.toNat ∧ encL a.toNat = [a] := by
  refine ⟨by unfold goodN; omega, ?_⟩
  unfold encL
  rw [if_pos h]
  unfold by8; simp
theorem LowS.cons {a : UInt8} {s : Str} (h : LowS (a :: s)) : a.toNat < 128 ∧ LowS s := ⟨h a (by simp), fun b hb => h b (by simp [hb])⟩
theorem runes_low : ∀ (s : Str), LowS s → runes s = s.map fun a => a.toNat
  | [], _ => runes_nil
  | a :: s, h => by
    obtain ⟨g1, g2⟩ := low_one h.cons.1
    have := runes_app g1 s
    rw [g2] at this
    have e : a :: s = [a] ++ s := rfl
    rw [e, this, runes_low s h.cons.2]; rfl
theorem lenT_up (s : Str) : lenT (upM s) = (s.length : Int) := by
  unfold lenT
  rw [runes_up, if_neg, List.length_map]
  intro h
  obtain ⟨a, _, ha⟩ := List.mem_map.1 h
  have := (up_good a).2.2
  exact this ha
theorem lenT_low {s : Str} (h : LowS s) : lenT s = (s.length : Int) := by
  unfold lenT
  rw [runes_low s h, if_neg, List.length_map]
  intro hm
  obtain ⟨a, ha, he⟩ := List.mem_map.1 hm
  have := h a ha
  omega
/-! the order stays -/
theorem byte_lt {a b : UInt8} : a < b ↔ a.toNat < b.toNat := UInt8.lt_iff_toNat_lt
theorem upB_eq (a : UInt8) : upB a = [240, 159, by8 (152 + a.toNat / 64), by8 (128 + a.toNat % 64)] := by
  have := a.toNat_lt
  unfold upB encL
  rw [if_neg (by omega), if_neg (by omega), if_neg (by omega)]
  have e1 : by8 (240 + (128512 + a.toNat) / 262144) = 240 := by rw [show 240 + (128512 + a.toNat) / 262144 = 240 from by omega]; rfl
  have e2 : by8 (128 + (128512 + a.toNat) / 4096 % 64) = 159 := by rw [show 128 + (128512 + a.toNat) / 4096 % 64 = 159 from by omega]; rfl
  rw [e1, e2, show 128 + (128512 + a.toNat) / 64 % 64 = 152 + a.toNat / 64 from by omega, show 128 + (128512 + a.toNat) % 64 = 128 + a.toNat % 64 from by omega]
theorem cmp_same (a : UInt8) (s t : Str) : Lib.compareBytes (a :: s) (a :: t) = Lib.compareBytes s t := by rw [cmp_cons, if_neg (by simp), if_neg (by simp)]
theorem cmp_upB (a b : UInt8) (s t : Str) : Lib.compareBytes (upB a ++ s) (upB b ++ t) = if a < b then -1 else if b < a then 1 else Lib.compareBytes s t := by
  have ha := a.toNat_lt; have hb := b.toNat_lt
  rw [upB_eq, upB_eq]
  simp only [List.cons_append, List.nil_append]
  rw [cmp_same, cmp_same, cmp_cons, cmp_cons]
  simp only [byte_lt, by8_toNat]
  by_cases h1 : a.toNat < b.toNat
  · rw [if_pos h1]
    by_cases h2 : a.toNat / 64 < b.toNat / 64
    · rw [if_pos (by omega)]
    · rw [if_neg (by omega), if_neg (by omega), if_pos (by omega)]
  · rw [if_neg h1]
    by_cases h2 : b.toNat < a.toNat
    · rw [if_pos h2]
      by_cases h3 : b.toNat / 64 < a.toNat / 64
      · rw [if_neg (by omega), if_pos (by omega)]
      · rw [if_neg (by omega), if_neg (by omega), if_neg (by omega), if_pos (by omega)]
    · rw [if_neg h2, if_neg (by omega), if_neg (by omega), if_neg (by omega), if_neg (by omega)]
theorem cmp_up : ∀ (s t : Str), Lib.compareBytes (upM s) (upM t) = Lib.compareBytes s t
  | [], [] => rfl
  | [], b :: t => by rw [upM_cons, upB_eq]; rfl
  | a :: s, [] => by rw [upM_cons, upB_eq]; rfl
  | a :: s, b :: t => by rw [upM_cons, upM_cons, cmp_upB, cmp_up s t, cmp_cons]
theorem upM_inj {s t : Str} (h : upM s = upM t) : s = t := cmp_eq (by rw [← cmp_up, h, cmp_refl])
theorem upB_inj {a b : UInt8} {s t : Str} (h : upB a ++ s = upB b ++ t) : a = b ∧ s = t := by
  obtain ⟨h1, h2⟩ := encL_inj (up_good a) (up_good b) h
  exact ⟨UInt8.toNat_inj.1 (by omega), h2⟩
theorem up_good_list {l : List Str} (hg : goodL l = 0) (hl : ∀ w ∈ l, LowS w) : goodL (l.map upM) = 0 := by
  obtain ⟨h1, h2, h3⟩ := good_words hg
  refine sorted_goodL ?_ (fun w hw => ?_) (by rw [List.length_map]; exact h1)
  · unfold Sorted
    rw [List.pairwise_map]
    exact h3.imp fun h => by unfold ltT at *; rw [cmp_up]; exact h
  · obtain ⟨x, hx, rfl⟩ := List.mem_map.1 hw
    have := h2 x hx
    unfold word at this ⊢
    rw [lenT_up]
    rw [lenT_low (hl x hx)] at this
    exact this
/-! graphs: as many nodes -/
abbrev upL (r : List Str) : List Str := r.map upM
theorem upL_inj : ∀ {r t : List Str}, upL r = upL t → r = t
  | [], [], _ => rfl
  | [], b :: t, h => by cases h
  | a :: r, [], h => by cases h
  | a :: r, b :: t, h => by
    simp only [upL, List.map_cons, List.cons.injEq] at h
    rw [upM_inj h.1, upL_inj h.2]
theorem pre_up : ∀ (p t : Str), (upM p).isPrefixOf (upM t) = p.isPrefixOf t
  | [], t => by simp [upM_nil]
  | a :: p, [] => by rw [upM_cons, upB_eq]; rfl
  | a :: p, b :: t => by
    rw [Bool.eq_iff_iff]
    have ih := pre_up p t
    rw [Bool.eq_iff_iff] at ih
    rw [List.isPrefixOf_iff_prefix, List.isPrefixOf_iff_prefix] at ih ⊢
    rw [upM_cons, upM_cons]
    constructor
    · rintro ⟨u, hu⟩
      rw [List.append_assoc] at hu
      obtain ⟨e1, e2⟩ := upB_inj hu
      obtain ⟨v, hv⟩ := ih.1 ⟨u, e2⟩
      exact ⟨v, by rw [e1, ← hv]; rfl⟩
    · rintro ⟨u, hu⟩
      simp only [List.cons_append, List.cons.injEq] at hu
      obtain ⟨v, hv⟩ := ih.2 ⟨u, hu.2⟩
      exact ⟨v, by rw [hu.1, List.append_assoc, hv]⟩
theorem drop_up : ∀ (n : Nat) (t : Str), (upM t).drop (4 * n) = upM (t.drop n)
  | 0, t => by simp
  | n + 1, [] => by simp [upM_nil]
  | n + 1, a :: t => by
    rw [upM_cons, show 4 * (n + 1) = (upB a).length + 4 * n from by rw [upB_len]; omega, List.drop_length_add_append, drop_up n t]; rfl
theorem pfx_up {s : Str} (h : LowS s) : pfx (upM s) = upM (pfx s) := by
  cases s with
  | nil => rfl
  | cons a s =>
    obtain ⟨g1, g2⟩ := low_one h.cons.1
    have e1 := (dec_encL g1 s).2
    rw [g2] at e1
    have e : a :: s = [a] ++ s := rfl
    rw [upM_cons, e, e1]
    have e2 := (dec_encL (up_good a) (upM s)).2
    show pfx (upB a ++ upM s) = _
    unfold upB at *
    rw [e2]
    simp [upM, upB]
theorem takeW_up (p : Str) (l : List Str) : (upL l).takeWhile (fun t => (upM p).isPrefixOf t) = upL (l.takeWhile fun t => p.isPrefixOf t) := by
  induction l with
  | nil => rfl
  | cons a l ih =>
    show (upM a :: upL l).takeWhile _ = _
    rw [List.takeWhile_cons, List.takeWhile_cons, pre_up]
    split
    · rw [ih]; rfl
    · rfl
theorem dropW_up (p : Str) (l : List Str) : (upL l).dropWhile (fun t => (upM p).isPrefixOf t) = upL (l.dropWhile fun t => p.isPrefixOf t) := by
  induction l with
  | nil => rfl
  | cons a l ih =>
    show (upM a :: upL l).dropWhile _ = _
    rw [List.dropWhile_cons, List.dropWhile_cons, pre_up]
    split
    · rw [ih]
    · rfl
theorem strip_up (p : Str) (l : List Str) : stripP (upM p) (upL l) = upL (stripP p l) := by
  unfold stripP
  rw [takeW_up]
  unfold upL
  rw [List.map_map, List.map_map]
  refine List.map_congr_left fun t _ => ?_
  show (upM t).drop (upM p).length = upM (t.drop p.length)
  rw [upM_len, drop_up]
abbrev LowL (l : List Str) : Prop := ∀ w ∈ l, LowS w
theorem low_strip {p : Str} {l : List Str} (h : LowL l) : LowL (stripP p l) := fun w hw => by
  have := h _ (strip_mem hw)
  exact fun b hb => this b (by simp [hb])
theorem low_more {p : Str} {l : List Str} (h : LowL l) : LowL (moreP p l) := fun w hw => h w ((List.dropWhile_suffix _).subset hw)
theorem groups_up : ∀ (n : Nat) (l : List Str), l.length ≤ n → LowL l → (groups (upL l)).map Prod.snd = (groups l).map (fun g => upL g.2) ∧ ∀ g ∈ groups l, LowL g.2
  | _, [], _, _ => ⟨rfl, by simp [groups_nil]⟩
  | 0, _ :: _, h, _ => by simp at h
  | n + 1, s :: r, h, hl => by
    have hm := more_len s r
    simp only [List.length_cons] at h
    have ih := groups_up n (moreP (pfx s) (s :: r)) (by omega) (low_more hl)
    have e : upL (s :: r) = upM s :: upL r := rfl
    have e2 : moreP (pfx (upM s)) (upM s :: upL r) = upL (moreP (pfx s) (s :: r)) := by
      rw [pfx_up (hl s (by simp)), ← e]; exact dropW_up _ _
    have e3 : stripP (pfx (upM s)) (upM s :: upL r) = upL (stripP (pfx s) (s :: r)) := by
      rw [pfx_up (hl s (by simp)), ← e]; exact strip_up _ _
    rw [e, groups_cons, groups_cons, List.map_cons, List.map_cons, e2, e3, ih.1]
    refine ⟨rfl, fun g hg => ?_⟩
    rcases List.mem_cons.1 hg with rfl | hg
    · exact low_strip hl
    · exact ih.2 g hg
theorem dropE_up (r : List Str) : dropE (upL r) = upL (dropE r) := by
  match r with
  | [] => rfl
  | [] :: r => rfl
  | (a :: s) :: r =>
    show dropE (upM (a :: s) :: upL r) = upM (a :: s) :: upL r
    rw [upM_cons, upB_eq]; rfl
theorem low_dropE {r : List Str} (h : LowL r) : LowL (dropE r) := fun w hw => by
  match r, h, hw with
  | [], _, hw => simp [dropE] at hw
  | [] :: r, h, hw => exact h w (by simp only [dropE] at hw; simp [hw])
  | (a :: s) :: r, h, hw => exact h w hw
theorem fold_snd {f : List (List Str) → List Str → List (List Str)} : ∀ (gs : List (Nat × List Str)) (a : List (List Str)), gs.foldl (fun a g => f a g.2) a = (gs.map Prod.snd).foldl f a
  | [], a => rfl
  | g :: gs, a => by rw [List.foldl_cons, fold_snd gs]; rfl
theorem nm_up : ∀ (f : Nat) (ns : List (List Str)) (r : List Str), LowL r → nmM f (ns.map upL) (upL r) = (nmM f ns r).map upL
  | 0, ns, r, _ => rfl
  | f + 1, ns, r, h => by
    unfold nmM
    have hm : upL r ∈ ns.map upL ↔ r ∈ ns := by
      rw [List.mem_map]
      constructor
      · rintro ⟨t, ht, e⟩
        rw [← upL_inj e]; exact ht
      · intro hr; exact ⟨r, hr, rfl⟩
    by_cases hr : r ∈ ns
    · rw [if_pos (hm.2 hr), if_pos hr]
    · rw [if_neg (fun e => hr (hm.1 e)), if_neg hr]
      obtain ⟨g1, g2⟩ := groups_up _ (dropE r) (Nat.le_refl _) (low_dropE h)
      rw [dropE_up, fold_snd, g1]
      have key : ∀ (gs : List (Nat × List Str)) (ns : List (List Str)), (∀ g ∈ gs, LowL g.2) → (gs.map fun g => upL g.2).foldl (nmM f) (ns.map upL) = (gs.foldl (fun a g => nmM f a g.2) ns).map upL := by
        intro gs
        induction gs with
        | nil => intro ns _; rfl
        | cons g gs ih =>
          intro ns hgs
          rw [List.map_cons, List.foldl_cons, List.foldl_cons, nm_up f ns g.2 (hgs g (by simp))]
          exact ih _ fun g' hg' => hgs g' (by simp [hg'])
      have e : ns.map upL ++ [upL r] = (ns ++ [r]).map upL := by simp
      rw [e]
      exact key _ _ g2
theorem gnodes_count {l : List Str} (hg : goodL l = 0) (hne : l ≠ []) : (gnodes l).length = (nmM 13 [] l).length := by
  rw [gnodes_yes hg, gnOf_len]
  unfold graphB graphM
  rw [if_neg hne, ← List.length_map (f := Prod.fst)]
  exact congrArg List.length (add_names 13 [] l)
theorem nodes_up {l : List Str} (hg : goodL l = 0) (hl : LowL l) : (gnodes (l.map upM)).length = (gnodes l).length := by
  by_cases hne : l = []
  · subst hne; rfl
  · rw [gnodes_count hg hne, gnodes_count (up_good_list hg hl) (by simpa using hne)]
    have := nm_up 13 [] l hl
    rw [List.map_nil] at this
    rw [show l.map upM = upL l from rfl, this, List.length_map]
/-! distances stay -/
theorem row_ren {g : Int → Int} (hi : ∀ x y, g x = g y → x = y) (q : List Int) : ∀ (p : List Int) (i : Nat), rowF (q.map g) (p.map g) i = rowF q p i := by
  refine snocInd (fun i => rfl) fun p r ih => ?_
  intro i
  rw [List.map_append, List.map_singleton, rowF_snoc, rowF_snoc]
  have hf : rowF (q.map g) (p.map g) = rowF q p := funext ih
  rw [hf]
  induction i with
  | zero => rfl
  | succ i h =>
    have hc : ((q.map g)[i]? = some (g r)) ↔ q[i]? = some r := by
      rw [List.getElem?_map]
      cases q[i]? with
      | none => simp
      | some x => simp only [Option.map_some, Option.some.injEq]; exact ⟨hi x r, fun e => by rw [e]⟩
    show min (min (rowF q p (i + 1) + 1) (stepF (q.map g) (rowF q p) (g r) i + 1)) (rowF q p i + if (q.map g)[i]? = some (g r) then 0 else 1) = min (min (rowF q p (i + 1) + 1) (stepF q (rowF q p) r i + 1)) (rowF q p i + if q[i]? = some r then 0 else 1)
    rw [h]
    by_cases hq : q[i]? = some r
    · rw [if_pos hq, if_pos (hc.2 hq)]
    · rw [if_neg hq, if_neg (fun e => hq (hc.1 e))]
theorem runesI_up {s : Str} (h : LowS s) : runesI (upM s) = (runesI s).map (128512 + ·) := by
  unfold runesI
  rw [runes_up, runes_low s h, List.map_map, List.map_map, List.map_map]
  refine List.map_congr_left fun a _ => ?_
  show ((128512 + a.toNat : Nat) : Int) = 128512 + (a.toNat : Int)
  omega
theorem lev_up {s t : Str} (hs : LowS s) (ht : LowS t) : lev (runesI (upM s)) (runesI (upM t)) = lev (runesI s) (runesI t) := by
  rw [runesI_up hs, runesI_up ht]
  unfold lev
  rw [List.length_map]
  exact row_ren (fun x y e => by omega) _ _ _
def upI (x : Itm) : Itm := ⟨x.dist, upM x.word⟩
theorem items_up {l : List Str} {s : Str} (hl : LowL l) (hs : LowS s) (n : Nat) : itemsM (l.map upM) (runesI (upM s)) n = (itemsM l (runesI s) n).map upI := by
  have hd : ∀ d : Int, distsM (l.map upM) (runesI (upM s)) d = (distsM l (runesI s) d).map upM := by
    intro d
    unfold distsM
    rw [List.filter_map]
    congr 1
    refine List.filter_congr fun w hw => ?_
    unfold nearW
    simp only [Function.comp_apply]
    rw [lev_up hs (hl w hw)]
  unfold itemsM
  rw [List.map_flatMap]
  congr 1
  funext d
  rw [hd, List.map_map, List.map_map]; rfl
structure RenL (l : List Str) (s : Str) (k : Int) (I : List Itm) : Prop where
  good : goodL (l.map upM) = 0
  ask : asked s = true
  nodes : (gnodes (l.map upM)).length = (gnodes l).length
  le : I.length ≤ 60
  low : ∀ x ∈ I, x.word.length ≤ 1000
  one : nextA (gnodes l) l s k true (Itm.mk 0 []) 60 = (I, true)
  two : nextA (gnodes (l.map upM)) (l.map upM) (upM s) k true (Itm.mk 0 []) 60 = (I.map upI, true)
theorem ren_law {l : List Str} {s : Str} {k : Int} (hg : goodL l = 0) (hl : LowL l) (hs : LowS s) (h16 : s.length ≤ 16) (hk : 0 ≤ k ∧ k ≤ 4) : ∃ I, RenL l s k I := by
  have hg2 := up_good_list hg hl
  have ha : asked s = true := by unfold asked; rw [lenT_low hs]; simp only [Bool.and_eq_true, decide_eq_true_eq]; omega
  have ha2 : asked (upM s) = true := by unfold asked; rw [lenT_up]; simp only [Bool.and_eq_true, decide_eq_true_eq]; omega
  have h60 := good_len hg
  have hI := itemsM_len (n := k.toNat + 1) hg ha
  refine ⟨itemsM l (runesI s) (k.toNat + 1), hg2, ha, nodes_up hg hl, by omega, fun x hx => ?_, lv_all hg ha hk (by omega), ?_⟩
  · exact good_len48 hg _ (mem_itemsM.1 hx).1
  · rw [lv_all hg2 ha2 hk (by omega), items_up hl hs]
theorem up_at {I : List Itm} {i : Nat} {x y : Itm} (hx : (I.map upI)[i]? = some x) (hy : I[i]? = some y) : x = upI y := by
  rw [List.getElem?_map, hy] at hx
  exact (Option.some.inj hx).symm
theorem low_split {s : Str} {l : List Str} {n : Nat} (h : ∀ b ∈ (s ++ l.flatten).take n, b.toNat ≤ 127) (hn : (s ++ l.flatten).length ≤ n) : LowS s ∧ LowL l := by
  rw [List.take_of_length_le hn] at h
  refine ⟨fun b hb => by have := h b (by simp [hb]); omega, fun w hw b hb => ?_⟩
  have := h b (List.mem_append.2 (.inr (List.mem_flatten.2 ⟨w, hw, hb⟩)))
  omega
theorem all_next {s all : Str} {l : List Str} {i : Nat} {x : Str} (h : all = s ++ (l.take i).flatten) (hx : l[i]? = some x) : all ++ x = s ++ (l.take (i + 1)).flatten := by
  rw [h, List.take_add_one, hx, List.flatten_append, List.append_assoc]; simp
theorem up_next {o l : List Str} {i : Nat} {x : Str} (h : o = (l.take i).map upM) (hx : l[i]? = some x) : o ++ [upM x] = (l.take (i + 1)).map upM := by
  rw [h, List.take_add_one, hx, List.map_append]; rfl
theorem low_next {all : Str} {i : Nat} {x : UInt8} (h : ∀ b ∈ all.take i, b.toNat ≤ 127) (hx : all[i]? = some x) (hc : ¬ ((x.toNat : Int) > 127)) : ∀ b ∈ all.take (i + 1), b.toNat ≤ 127 := by
  intro b hb
  rw [List.take_add_one, hx] at hb
  simp only [Option.toList_some, List.mem_append, List.mem_singleton] at hb
  rcases hb with hb | rfl
  · exact h b hb
  · omega
theorem low_nextB {all : Str} {i : Nat} (h : ∀ b ∈ all.take i, b.toNat ≤ 127) (hi : i < all.length) (hc : ¬ ((byteAt all i : Int) > 127)) : ∀ b ∈ all.take (i + 1), b.toNat ≤ 127 :=
  low_next h (List.getElem?_eq_getElem hi) (by rw [byteAt_eq hi] at hc; exact hc)
end Go.Ml
/-
  strings.Join at a slice that reads as a list: the kit's contract, put in this work's words.
-/
set_option linter.unusedVariables false
set_option linter.unusedSimpArgs false
namespace Go.Ik
open Go Go.Proofs

theorem flat_encJ (l : List Str) : l.flatMap encS = l.map strV := by
  induction l with
  | nil => rfl
  | cons a l ih => simp [encS, ih]
theorem join_own {P : Program} {ρ : Go.Shelf.Ren} (L : Lays.n156 P ρ) (X : Builder.Extra P ρ) {w0 : World} {F : Nat → Prop} {v : Value} {l : List Str} (h : Sl encS w0 F v l) (hne : l ≠ []) (hb : ∀ b, F b → b < w0.heap.size) (hlen : Ml.sumLen l + l.length ≤ 100000000) :
    Calls P (ρ.f 156) #[v, strV [255]] w0 (Ret fun rv w1 => rv = strV (Ml.joinS l) ∧ Ext w0 w1) := by
  obtain ⟨a, cap, rfl, h2, h3, h4⟩ := h
  rcases h4 with h4 | ⟨b, off, rfl, hF, hr⟩
  · exact absurd h4 hne
  · have hj := Ml.joinS_len l
    have hmap : (l.map fun s : Str => (⟨s.toArray⟩ : ByteArray)).map (·.data.toList) = l := by
      rw [List.map_map]
      conv => rhs; rw [← List.map_id l]
      exact List.map_congr_left fun s _ => by simp
    have hc := Any.strings_Join_48 L X b off cap (l.map fun s : Str => (⟨s.toArray⟩ : ByteArray)) ⟨#[255]⟩ w0 (fun j x hx => by
      rw [List.getElem?_map] at hx
      obtain ⟨s, hs, rfl⟩ := Option.map_eq_some_iff.1 hx
      have := hr j (strV s) (by rw [flat_encJ, List.getElem?_map, hs]; rfl)
      exact this) (hb b hF) (by rw [List.length_map]; omega) (by rw [List.length_map]; exact h2) (by
      rw [hmap]
      have : (Ml.joinS l).length ≤ 281474976710656 := by omega
      exact this)
    rw [List.length_map, hmap] at hc
    refine Calls.mono hc ?_
    rintro e w' ⟨rfl, hw⟩
    exact ⟨_, rfl, rfl, Mod.of_below hw⟩
end Go.Ik
