/-
  Plain laws of chapter 11: levels; a word that is asked for.
-/
import Derived.Test.YtjhbobjjkbppkaaLwWalk
import Derived.Test.YtjhbobjjkbppkaaLwPut
set_option linter.unusedVariables false
set_option linter.unusedSimpArgs false
namespace Go.Ml
open Go.Ik

theorem good_without {a b : List Str} (h : goodL a = 0) : goodL (withoutM a b) = 0 := by
  obtain ⟨h1, h2, h3⟩ := good_words h
  exact sorted_goodL (without_sorted h3) (fun w hw => h2 w (without_mem.1 hw).1) (Nat.le_trans (without_len a b) h1)
theorem levels_dists {words part : List Str} {s : Str} {d : Int} (hg : goodL words = 0) : distsA (gnodes (withoutM words part)) (withoutM words part) s d = withoutM (distsA (gnodes words) words s d) part := by
  have h2 := good_without (b := part) hg
  unfold distsA
  by_cases hc : asked s = true ∧ 0 ≤ d ∧ d ≤ 4
  · rw [if_pos (mayA_yes (gnodes_pos h2) hc.2 hc.1), if_pos (mayA_yes (gnodes_pos hg) hc.2 hc.1)]
    unfold distsM withoutM
    rw [List.filter_filter, List.filter_filter]
    exact List.filter_congr fun x _ => Bool.and_comm _ _
  · rw [if_neg (fun h => hc ⟨(mayA_iff.1 h).2.2, (mayA_iff.1 h).2.1⟩), if_neg (fun h => hc ⟨(mayA_iff.1 h).2.2, (mayA_iff.1 h).2.1⟩)]; rfl
theorem distsA_eq {words : List Str} {s : Str} {d : Int} (hg : goodL words = 0) (ha : asked s = true) (hd : 0 ≤ d ∧ d ≤ 4) : distsA (gnodes words) words s d = distsM words (runesI s) d := by
  unfold distsA; rw [if_pos (mayA_yes (gnodes_pos hg) hd ha)]
theorem lv_start {words : List Str} {q : List Int} {d : Nat} {all : List Itm} {x : List Str} (h : all = itemsM words q d) : all = itemsM words q d ++ (x.take 0).map (Itm.mk (d : Int)) := by simp [h]
theorem lv_step {words : List Str} {q : List Int} {d i : Nat} {all : List Itm} {x : List Str} {w : Str} (h : all = itemsM words q d ++ (x.take i).map (Itm.mk (d : Int))) (hx : x[i]? = some w) : all ++ [Itm.mk (d : Int) w] = itemsM words q d ++ (x.take (i + 1)).map (Itm.mk (d : Int)) := by
  rw [h, List.take_add_one, hx, List.map_append, List.append_assoc]; rfl
theorem lv_next {words : List Str} {s : Str} {d i : Nat} {all : List Itm} (hg : goodL words = 0) (ha : asked s = true) (hd : d ≤ 4) (h : all = itemsM words (runesI s) d ++ ((distsA (gnodes words) words s d).take i).map (Itm.mk (d : Int))) (hi : (distsA (gnodes words) words s d).length ≤ i) : all = itemsM words (runesI s) (d + 1) := by
  rw [h, List.take_of_length_le hi, distsA_eq hg ha (by omega), itemsM_succ]
theorem itemsM_len {words : List Str} {s : Str} {n : Nat} (hg : goodL words = 0) (ha : asked s = true) : (itemsM words (runesI s) n).length ≤ words.length := by
  cases n with
  | zero => simp [itemsM]
  | succ n =>
    have := refAll_items (k := (n : Int)) (good_sorted hg) (good_fineT hg) (asked_fine ha) (by omega)
    rw [show (n : Int).toNat + 1 = n + 1 from by omega] at this
    rw [← this]; exact refAll_len _ _ _
theorem lv_all {words : List Str} {s : Str} {k : Int} {after : Itm} {b : Int} (hg : goodL words = 0) (ha : asked s = true) (hk : 0 ≤ k ∧ k ≤ 4) (hb : 60 ≤ b) : nextA (gnodes words) words s k true after b = (itemsM words (runesI s) (k.toNat + 1), true) := by
  have hl := itemsM_len (n := k.toNat + 1) hg ha
  have h60 := good_len hg
  rw [nextA_eq hg ha hk (by omega)]
  have hf : (itemsM words (runesI s) (k.toNat + 1)).filter (okI true after) = itemsM words (runesI s) (k.toNat + 1) := List.filter_eq_self.2 fun x _ => rfl
  rw [hf, List.take_of_length_le (by omega), decide_eq_true (by omega)]
/-! no distance -/
theorem row_zero (q : List Int) : ∀ (p : List Int) (i : Nat), i ≤ q.length → rowF q p i = 0 → p = q.take i := by
  refine snocInd (fun i hi h => ?_) fun p r ih => ?_
  · rw [rowF_nil] at h
    have : i = 0 := by omega
    subst this; simp
  · intro i hi h
    rw [rowF_snoc] at h
    have hlip := lip_row q p
    cases i with
    | zero =>
      unfold stepF at h
      have := hlip.pos 0; omega
    | succ i =>
      have h1 := hlip.pos (i + 1)
      have h2 := step_pos (q := q) (r := r) hlip i
      have h3 := hlip.pos i
      have hs : min (min (rowF q p (i + 1) + 1) (stepF q (rowF q p) r i + 1)) (rowF q p i + if q[i]? = some r then 0 else 1) = 0 := h
      by_cases hc : q[i]? = some r
      · rw [if_pos hc] at hs
        rw [List.take_add_one, hc, ← ih i (by omega) (by omega)]; rfl
      · rw [if_neg hc] at hs; omega
theorem row_diag (q : List Int) : ∀ i : Nat, i ≤ q.length → rowF q (q.take i) i = 0
  | 0, _ => by simp [rowF_nil]
  | i + 1, hi => by
    obtain ⟨r, hr⟩ : ∃ r, q[i]? = some r := ⟨_, List.getElem?_eq_getElem (by omega)⟩
    have ih := row_diag q i (by omega)
    have hlip := lip_row q (q.take i)
    rw [List.take_add_one, hr]
    show rowF q (q.take i ++ [r]) (i + 1) = 0
    rw [rowF_snoc]
    have h1 := hlip.pos (i + 1)
    have h2 := step_pos (q := q) (r := r) hlip i
    show min (min (rowF q (q.take i) (i + 1) + 1) (stepF q (rowF q (q.take i)) r i + 1)) (rowF q (q.take i) i + if q[i]? = some r then 0 else 1) = 0
    rw [if_pos hr, ih]; omega
theorem lev_zero {q p : List Int} : lev q p = 0 ↔ p = q := by
  constructor
  · intro h
    have := row_zero q p q.length (Nat.le_refl _) h
    rw [this, List.take_length]
  · rintro rfl
    have := row_diag p p.length (Nat.le_refl _)
    rw [List.take_length] at this
    exact this
theorem runesI_inj {a b : Str} (ha : fineT a = true) (hb : fineT b = true) (h : runesI a = runesI b) : a = b := by
  have h1 : runes a = runes b := by
    unfold runesI at h
    exact List.map_inj_right (fun x y e => by have e' : (x : Int) = (y : Int) := e; omega) |>.1 h
  have fa : Fine a := by unfold fineT at ha; exact (show 65533 ∉ runes a from of_decide_eq_true ha)
  have fb : Fine b := by unfold fineT at hb; exact (show 65533 ∉ runes b from of_decide_eq_true hb)
  rw [← (encT_runes a fa).1, ← (encT_runes b fb).1, h1]
theorem dists_zero {words : List Str} {w : Str} (hs : Sorted words) (hf : ∀ x ∈ words, fineT x = true) (hw : w ∈ words) : distsM words (runesI w) 0 = [w] := by
  have hn := sorted_nodup hs
  have he : distsM words (runesI w) 0 = words.filter (fun x => x == w) := by
    unfold distsM
    refine List.filter_congr fun x hx => ?_
    unfold nearW
    rw [Bool.eq_iff_iff, decide_eq_true_eq, beq_iff_eq, lev_zero]
    constructor
    · intro h; exact runesI_inj (hf x hx) (hf w hw) h
    · rintro rfl; rfl
  rw [he]
  clear he hs hf
  induction words with
  | nil => simp at hw
  | cons a l ih =>
    rw [List.nodup_cons] at hn
    rcases List.mem_cons.1 hw with rfl | hw
    · rw [List.filter_cons_of_pos (by simp)]
      congr 1
      rw [List.filter_eq_nil_iff]
      intro x hx
      simp only [beq_iff_eq]
      rintro rfl
      exact hn.1 hx
    · rw [List.filter_cons_of_neg (by simp only [beq_iff_eq]; rintro rfl; exact hn.1 hw)]
      exact ih hw hn.2
structure OwnL (words : List Str) (w : Str) (k : Int) (I : List Itm) : Prop where
  pos : 1 ≤ I.length
  le : I.length ≤ 60
  one : nextA (gnodes words) words w k true (Itm.mk 0 []) 1 = ([Itm.mk 0 w], decide (I.length ≤ 1))
  all : nextA (gnodes words) words w k true (Itm.mk 0 []) 60 = (I, true)
  rest : nextA (gnodes words) words w k false (Itm.mk 0 w) 60 = (I.drop 1, true)
theorem word_asked {w : Str} (h : word w = true) : asked w = true := by
  unfold word at h
  unfold asked
  simp only [Bool.and_eq_true, decide_eq_true_eq] at h ⊢
  omega
theorem own_law {words : List Str} {w : Str} {k : Int} (hg : goodL words = 0) (hw : w ∈ words) (hk : 0 ≤ k ∧ k ≤ 4) : ∃ I, OwnL words w k I := by
  have ha := word_asked ((good_words hg).2.1 w hw)
  have hs := good_sorted hg
  have hf := good_fineT hg
  have h60 := good_len hg
  have hhead : ∀ n, ∃ T, itemsM words (runesI w) (n + 1) = Itm.mk 0 w :: T := by
    intro n
    induction n with
    | zero => exact ⟨[], by rw [itemsM_succ]; simp [itemsM, dists_zero hs hf hw]⟩
    | succ n ih =>
      obtain ⟨T, hT⟩ := ih
      exact ⟨_, by rw [itemsM_succ, hT]; rfl⟩
  obtain ⟨T, hT⟩ := hhead k.toNat
  have hlen := itemsM_len (n := k.toNat + 1) hg ha
  have hsort := itemsM_sorted (q := runesI w) hs (k.toNat + 1)
  have hft : ∀ after, (itemsM words (runesI w) (k.toNat + 1)).filter (okI true after) = itemsM words (runesI w) (k.toNat + 1) := fun after => List.filter_eq_self.2 fun x _ => rfl
  refine ⟨itemsM words (runesI w) (k.toNat + 1), by rw [hT]; simp, by omega, ?_, lv_all hg ha hk (by omega), ?_⟩
  · rw [nextA_eq hg ha hk (by omega), hft]
    congr 1
    rw [hT]; rfl
  · have hz : ((itemsM words (runesI w) (k.toNat + 1)).filter (okI true (Itm.mk 0 [])))[0]? = some (Itm.mk 0 w) := by rw [hft, hT]; rfl
    have hb := filter_behind hsort hz
    rw [nextA_eq hg ha hk (by omega), hb, hft, List.take_of_length_le (by rw [List.length_drop]; omega), decide_eq_true (by rw [List.length_drop]; omega)]
end Go.Ml
theorem Go.Ml.own_end {I : List Go.Ml.Itm} (h : 1 ≤ I.length) : decide (I.length ≤ 1) = (((I.length : Nat) : Int) == 1) := by
  by_cases hc : I.length ≤ 1
  · rw [decide_eq_true hc]; symm; rw [beq_iff_eq]; omega
  · rw [decide_eq_false hc]; symm; rw [beq_eq_false_iff_ne]; omega
