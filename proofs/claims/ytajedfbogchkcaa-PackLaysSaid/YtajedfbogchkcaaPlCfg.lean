/-
  The document's chapters 12 and 13, plainly.
-/
import Derived.Test.YtajedfbogchkcaaPlImg
import Derived.Test.YtajedfbogchkcaaPlRef4
import Derived.Test.YtajedfbogchkcaaPl1
set_option linter.unusedVariables false
set_option linter.unusedSimpArgs false
namespace Go.Ml
open Go.Ik
structure CfgS (c : Cfg) : Prop where
  words : SOk c.words
  cuts : ∀ k ∈ c.cuts, k.text.length ≤ 1000
  wl : c.words.length ≤ 80
  cl : c.cuts.length ≤ 10
theorem CfgS.of {c : Cfg} (h : greatC c = false) : CfgS c := by
  unfold greatC at h
  simp only [Bool.or_eq_false_iff, decide_eq_false_iff_not] at h
  obtain ⟨⟨h1, h2⟩, h3⟩ := h
  refine ⟨greatT_short h3, fun k hk => ?_, greatT_len h3, by omega⟩
  rw [List.any_eq_false] at h2
  have := h2 k hk
  simp only [decide_eq_true_eq] at this; omega
theorem kcmp_eq (a b : Key) : keyCmp a b = if cmpI a.len b.len ≠ 0 then cmpI a.len b.len else Lib.compareBytes a.text b.text := by
  unfold keyCmp
  simp only [orI]
  split
  · rfl
  · split
    · rfl
    · omega
theorem keyLess_iff {a b : Key} : keyLess a b = true ↔ a.len < b.len ∨ a.len = b.len ∧ Lib.compareBytes a.text b.text < 0 := by
  unfold keyLess
  rw [decide_eq_true_eq, kcmp_eq]
  unfold cmpI
  by_cases h1 : a.len < b.len
  · simp [h1]
  · by_cases h2 : a.len > b.len
    · simp [h1, h2]; omega
    · have : a.len = b.len := by omega
      simp [this]
theorem kl_yes {a b : Key} (h : a.len < b.len) : true = keyLess a b := (keyLess_iff.2 (.inl h)).symm
theorem kl_no {a b : Key} (h1 : ¬ a.len < b.len) (h2 : ¬ a.len = b.len) : false = keyLess a b := by
  cases h : keyLess a b with
  | false => rfl
  | true => rw [keyLess_iff] at h; rcases h with h | h; exact absurd h h1; exact absurd h.1 h2
theorem kl_dec {a b : Key} {c : Bool} (h2 : a.len = b.len) (h : c = decide (Lib.compareBytes a.text b.text < 0)) : c = keyLess a b := by
  cases h' : keyLess a b with
  | true =>
    rw [keyLess_iff] at h'
    rcases h' with h' | h'
    · omega
    · rw [h]; exact decide_eq_true h'.2
  | false =>
    rw [h]
    refine decide_eq_false fun hx => ?_
    have := keyLess_iff.2 (.inr ⟨h2, hx⟩)
    rw [h'] at this; cases this
theorem of_yes {cuts : List Key} {w : Str} {j n : Nat} (hw : word w = true) (h : n = ((cuts.take j).filter fun c => !keyLess ⟨lenT w, w⟩ c).length) (hj : cuts.length ≤ j) : (n : Int) = ofM cuts w := by
  rw [List.take_of_length_le hj] at h
  unfold ofM; rw [if_pos hw, h]; rfl
theorem of_no {cuts : List Key} {w : Str} (hw : word w = false) : (-1 : Int) = ofM cuts w := by unfold ofM; rw [hw]; rfl
theorem of_rng (cuts : List Key) (w : Str) : -1 ≤ ofM cuts w ∧ ofM cuts w ≤ cuts.length := by
  unfold ofM belowN
  split
  · have := List.length_filter_le (fun c => !keyLess ⟨lenT w, w⟩ c) cuts; omega
  · omega
theorem of_pos {cuts : List Key} {w : Str} (hw : word w = true) : 0 ≤ ofM cuts w := by unfold ofM; rw [if_pos hw]; omega
theorem sl_yes {cuts : List Key} {shard : Int} {w : Str} (hw : word w = true) (h : ofM cuts w = shard) : slP cuts shard w = true := slP_yes (of_pos hw) h
theorem sl_no1 {cuts : List Key} {shard : Int} {w : Str} (hw : word w = false) : slP cuts shard w = false := slP_no1 (by unfold ofM; rw [hw]; simp)
theorem slice_out {cuts : List Key} {words : List Str} {shard : Int} (h : shard < 0 ∨ (cuts.length : Int) + 1 ≤ shard) : sliceM cuts words shard = [] := by
  unfold sliceM
  rw [List.filter_eq_nil_iff]
  intro w _
  have := of_rng cuts w
  by_cases h1 : ofM cuts w = shard
  · rw [slP_no1 (by omega)]; simp
  · rw [slP_no2 h1]; simp
theorem slice_len (cuts : List Key) (words : List Str) (shard : Int) : (sliceM cuts words shard).length ≤ words.length := List.length_filter_le _ _
theorem slice_ok {cuts : List Key} {words : List Str} {shard : Int} (h : SOk words) : SOk (sliceM cuts words shard) := fun s hs => h s (List.mem_filter.1 hs).1
theorem slice_lok {cuts : List Key} {words : List Str} {shard : Int} (h : LOk words) : LOk (sliceM cuts words shard) := fun s hs => h s (List.mem_filter.1 hs).1
/-! chapter 13 -/
theorem cop_1 {c : Cfg} {shard : Int} {j : Nat} {l : List Int} (hi : l = (List.range j).map (fun j : Nat => 1 + (shard + (j : Int)) % c.workers)) (h1 : ¬ (j : Int) < c.copies) (h2 : j ≤ c.copies.toNat) (hin : j = 0 ∨ within shard 0 ((shards c : Int) - 1) = true) : l = copiesM c shard := by
  by_cases hw : within shard 0 ((shards c : Int) - 1) = true
  · exact copies_yes hw hi (by omega)
  · have hj : j = 0 := hin.resolve_right hw
    subst hj
    rw [hi]
    exact copies_no (by simpa using hw)
theorem cop_2 {c : Cfg} {shard : Int} {j : Nat} {l : List Int} (hi : l = (List.range j).map (fun j : Nat => 1 + (shard + (j : Int)) % c.workers)) (h1 : shard < 0 ∨ (shards c : Int) ≤ shard) (hin : j = 0 ∨ within shard 0 ((shards c : Int) - 1) = true) : l = copiesM c shard := by
  have hw : within shard 0 ((shards c : Int) - 1) = false := by
    unfold within
    rcases h1 with h1 | h1
    · rw [decide_eq_false (by omega)]; rfl
    · rw [decide_eq_false (p := shard ≤ _) (by omega), Bool.and_false]
  have hj : j = 0 := hin.resolve_right (by rw [hw]; simp)
  subst hj
  rw [hi]
  exact copies_no hw
theorem within_yes {shard : Int} {c : Cfg} (h0 : 0 ≤ shard) (h1 : shard < (shards c : Int)) : within shard 0 ((shards c : Int) - 1) = true := by
  unfold within; rw [decide_eq_true h0, decide_eq_true (by omega)]; rfl
theorem copies_inj {W s : Int} {i j : Nat} (hW : (i : Int) < W) (hj : (j : Int) < W) (h : (s + (i : Int)) % W = (s + (j : Int)) % W) : i = j := by
  have h1 := Int.emod_add_mul_ediv (s + (i : Int)) W
  have h2 := Int.emod_add_mul_ediv (s + (j : Int)) W
  rw [h] at h1
  have h3 : W * ((s + i) / W - (s + j) / W) = (i : Int) - j := by rw [Int.mul_sub]; omega
  by_cases hq : (s + (i : Int)) / W - (s + (j : Int)) / W = 0
  · rw [hq] at h3; omega
  · exfalso
    rcases Int.lt_or_gt_of_ne hq with h4 | h4
    · have : W * ((s + i) / W - (s + j) / W) ≤ W * (-1) := Int.mul_le_mul_of_nonneg_left (by omega) (by omega)
      omega
    · have : W * 1 ≤ W * ((s + i) / W - (s + j) / W) := Int.mul_le_mul_of_nonneg_left (by omega) (by omega)
      omega
theorem copies_count (c : Cfg) (shard : Int) (x : Int) : (copiesM c shard).count x = if (copiesM c shard).contains x = true then 1 else 0 := by
  have hn : (copiesM c shard).Nodup := by
    unfold copiesM
    split
    · rename_i hw
      have hs := within_true hw
      have hm := may_bounds (may_of_shards (c := c) (by omega))
      rw [List.Nodup, List.pairwise_map]
      refine List.Pairwise.imp_of_mem (R := fun a b => a ≠ b) (fun {a b} ha hb hab e => ?_) (List.nodup_range (n := c.copies.toNat))
      have h1 := List.mem_range.1 ha
      have h2 := List.mem_range.1 hb
      exact hab (copies_inj (W := c.workers) (s := shard) (by omega) (by omega) (by omega))
    · simp
  by_cases h : x ∈ copiesM c shard
  · rw [if_pos (by simpa using h)]
    have h1 := List.nodup_iff_count.1 hn x
    have h2 := List.count_pos_iff.2 h
    omega
  · rw [if_neg (by simpa using h)]
    exact List.count_eq_zero.2 h
/-- the document's Keeps, place by place -/
theorem kp_next {c : Cfg} {worker : Int} {k j : Nat} {l l2 : List Int} (h : l = ((List.range k).filter (fun s : Nat => (copiesM c (s : Int)).contains worker)).map (fun s : Nat => (s : Int))) (h2 : l2 = l ++ List.replicate (((copiesM c (k : Int)).take j).count worker) (k : Int)) (hj : (copiesM c (k : Int)).length ≤ j) :
    l2 = ((List.range (k + 1)).filter (fun s : Nat => (copiesM c (s : Int)).contains worker)).map (fun s : Nat => (s : Int)) := by
  rw [List.take_of_length_le hj, copies_count] at h2
  rw [h2, List.range_succ, List.filter_append, List.map_append, ← h]
  congr 1
  by_cases hc : (copiesM c (k : Int)).contains worker = true
  · rw [if_pos hc, List.filter_cons_of_pos (p := fun s : Nat => (copiesM c (s : Int)).contains worker) hc]; rfl
  · rw [if_neg hc, List.filter_cons_of_neg (p := fun s : Nat => (copiesM c (s : Int)).contains worker) hc]; rfl
theorem kp_yes {l l2 w : List Int} {worker x k : Int} {j : Nat} (h2 : l2 = l ++ List.replicate ((w.take j).count worker) k) (hx : w[j]? = some x) (he : x = worker) : l2 ++ [k] = l ++ List.replicate ((w.take (j + 1)).count worker) k := by
  rw [h2, List.take_add_one, hx, List.count_append, he]
  simp [List.replicate_succ']
theorem kp_no {l l2 w : List Int} {worker x k : Int} {j : Nat} (h2 : l2 = l ++ List.replicate ((w.take j).count worker) k) (hx : w[j]? = some x) (he : ¬ x = worker) : l2 = l ++ List.replicate ((w.take (j + 1)).count worker) k := by
  rw [h2, List.take_add_one, hx, List.count_append]
  simp [he]
def wordsR (c : Cfg) (shard : Int) : List Str := if 0 ≤ shard ∧ shard < (shards c : Int) then sliceM c.cuts c.words shard else []
theorem wordsR_no {c : Cfg} {shard : Int} (h : shard < 0 ∨ (shards c : Int) ≤ shard) : [] = wordsR c shard := by unfold wordsR; rw [if_neg (by omega)]
theorem wordsR_yes {c : Cfg} {shard : Int} (h : 0 ≤ shard) (h2 : shard < (shards c : Int)) : sliceM c.cuts c.words shard = wordsR c shard := by unfold wordsR; rw [if_pos ⟨h, h2⟩]
theorem wordsR_may {c : Cfg} {shard : Int} (h : may c = true) : wordsM c shard = wordsR c shard := by
  unfold wordsR wordsM
  split
  · rfl
  · refine slice_out ?_
    have : shards c = c.cuts.length + 1 := by unfold shards; rw [if_pos h]
    omega
def imgC (c : Cfg) (shard : Int) : List UInt8 := if 0 ≤ shard ∧ shard < (shards c : Int) then imgM (sliceM c.cuts c.words shard) else []
def errC (c : Cfg) (shard : Int) : Int := if 0 ≤ shard ∧ shard < (shards c : Int) then goodL (sliceM c.cuts c.words shard) else 4
theorem imgC_no {c : Cfg} {shard : Int} (h : shard < 0 ∨ (shards c : Int) ≤ shard) : ([] : List UInt8) = imgC c shard ∧ (4 : Int) = errC c shard := by unfold imgC errC; rw [if_neg (by omega), if_neg (by omega)]; exact ⟨rfl, rfl⟩
theorem imgC_yes {c : Cfg} {shard : Int} (h : 0 ≤ shard) (h2 : shard < (shards c : Int)) : imgM (sliceM c.cuts c.words shard) = imgC c shard ∧ goodL (sliceM c.cuts c.words shard) = errC c shard := by unfold imgC errC; rw [if_pos ⟨h, h2⟩, if_pos ⟨h, h2⟩]; exact ⟨rfl, rfl⟩
theorem imgC_len (c : Cfg) (shard : Int) : (imgC c shard).length ≤ 3000010 := by
  unfold imgC; split
  · exact imgM_len _
  · simp
theorem copies_len (c : Cfg) (shard : Int) : (copiesM c shard).length ≤ 3 := by
  unfold copiesM
  split
  · rename_i hw
    have hs := within_true hw
    have hm := may_bounds (may_of_shards (c := c) (by omega))
    simp; omega
  · simp
theorem keeps_len (c : Cfg) (worker : Int) : (keepsM c worker).length ≤ 6 := by
  unfold keepsM
  rw [List.length_map]
  have h1 := List.length_filter_le (fun s : Nat => (copiesM c (s : Int)).contains worker) (List.range (shards c))
  have h2 := shards_le c
  rw [List.length_range] at h1; omega
end Go.Ml
theorem Go.Ml.wordsR_len (c : Go.Ml.Cfg) (shard : Int) : (Go.Ml.wordsR c shard).length ≤ c.words.length := by
  unfold Go.Ml.wordsR; split
  · exact Go.Ml.slice_len _ _ _
  · simp
theorem Go.Ml.errC_rng (c : Go.Ml.Cfg) (shard : Int) : 0 ≤ Go.Ml.errC c shard ∧ Go.Ml.errC c shard ≤ 100 := by
  unfold Go.Ml.errC; split
  · have := Go.Ml.goodL_range (Go.Ml.sliceM c.cuts c.words shard); omega
  · omega
