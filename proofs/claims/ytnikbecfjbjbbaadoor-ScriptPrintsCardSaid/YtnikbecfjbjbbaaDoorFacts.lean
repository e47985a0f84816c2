/-
  Facts on the types and functions of the translation.
-/
import Derived.Test.YtnikbecfjbjbbaaDoorProg
import Derived.Test.YtnikbecfjbjbbaaDoorLibD
set_option linter.unusedVariables false
set_option linter.unusedSimpArgs false
namespace Go.Proofs
open Go.Ik Go.Ml
theorem mixed : Tryd.prog.follows .mixedOrders = true := by kernel_rfl
theorem ti3 : tyI Tryd.prog 3 = some (false, 1, 8, [.int .i64 0]) := by kernel_rfl
theorem ti4 : tyI Tryd.prog 4 = some (false, 1, 1, [.bool false]) := by kernel_rfl
theorem ti5 : tyI Tryd.prog 5 = some (false, 1, 1, [.int .u8 0]) := by kernel_rfl
theorem ti9 : tyI Tryd.prog 9 = some (false, 1, 16, [strV []]) := by kernel_rfl
theorem ti27 : tyI Tryd.prog 27 = some (false, 1, 24, [.slice none 0 0]) := by kernel_rfl
theorem ti28 : tyI Tryd.prog 28 = some (false, 1, 24, [.slice none 0 0]) := by kernel_rfl
theorem ti30 : tyI Tryd.prog 30 = some (true, 12, 128, [.slice none 0 0, .slice none 0 0, .int .i64 0, .int .i64 0, .int .i64 0, .int .i64 0, .int .i64 0, .int .i64 0, .int .i64 0, .int .i64 0, .int .i64 0, .int .i64 0]) := by kernel_rfl
theorem ti31 : tyI Tryd.prog 31 = some (false, 1, 24, [.slice none 0 0]) := by kernel_rfl
theorem ti48 : tyI Tryd.prog 48 = some (true, 3, 32, [strV [], .int .i64 0, .int .i64 0]) := by kernel_rfl
theorem ti50 : tyI Tryd.prog 50 = some (true, 7, 64, [.int .i64 0, .int .i64 0, .int .i64 0, .int .i64 0, strV [], .int .i64 0, .int .i64 0]) := by kernel_rfl
theorem ti51 : tyI Tryd.prog 51 = some (false, 1, 8, [.pointer none]) := by kernel_rfl
theorem ti52 : tyI Tryd.prog 52 = some (false, 1, 24, [.slice none 0 0]) := by kernel_rfl
theorem ti54 : tyI Tryd.prog 54 = some (true, 2, 32, [.pointer none, .slice none 0 0]) := by kernel_rfl
theorem ti72 : tyI Tryd.prog 72 = some (true, 2, 24, [.int .i64 0, strV []]) := by kernel_rfl
theorem fl30_0 : fldI Tryd.prog 30 0 = some 0 := by kernel_rfl
theorem fl30_1 : fldI Tryd.prog 30 1 = some 1 := by kernel_rfl
theorem fl30_2 : fldI Tryd.prog 30 2 = some 2 := by kernel_rfl
theorem fl30_3 : fldI Tryd.prog 30 3 = some 3 := by kernel_rfl
theorem fl30_4 : fldI Tryd.prog 30 4 = some 4 := by kernel_rfl
theorem fl30_5 : fldI Tryd.prog 30 5 = some 5 := by kernel_rfl
theorem fl30_6 : fldI Tryd.prog 30 6 = some 6 := by kernel_rfl
theorem fl30_7 : fldI Tryd.prog 30 7 = some 7 := by kernel_rfl
theorem fl30_8 : fldI Tryd.prog 30 8 = some 8 := by kernel_rfl
theorem fl30_9 : fldI Tryd.prog 30 9 = some 9 := by kernel_rfl
theorem fl30_10 : fldI Tryd.prog 30 10 = some 10 := by kernel_rfl
theorem fl30_11 : fldI Tryd.prog 30 11 = some 11 := by kernel_rfl
theorem fl48_0 : fldI Tryd.prog 48 0 = some 0 := by kernel_rfl
theorem fl48_1 : fldI Tryd.prog 48 1 = some 1 := by kernel_rfl
theorem fl48_2 : fldI Tryd.prog 48 2 = some 2 := by kernel_rfl
theorem fl50_0 : fldI Tryd.prog 50 0 = some 0 := by kernel_rfl
theorem fl50_1 : fldI Tryd.prog 50 1 = some 1 := by kernel_rfl
theorem fl50_2 : fldI Tryd.prog 50 2 = some 2 := by kernel_rfl
theorem fl50_3 : fldI Tryd.prog 50 3 = some 3 := by kernel_rfl
theorem fl50_4 : fldI Tryd.prog 50 4 = some 4 := by kernel_rfl
theorem fl54_0 : fldI Tryd.prog 54 0 = some 0 := by kernel_rfl
theorem fl54_1 : fldI Tryd.prog 54 1 = some 1 := by kernel_rfl
theorem fl66_0 : fldI Tryd.prog 66 0 = some 0 := by kernel_rfl
theorem fl66_1 : fldI Tryd.prog 66 1 = some 12 := by kernel_rfl
theorem fl72_0 : fldI Tryd.prog 72 0 = some 0 := by kernel_rfl
theorem fl72_1 : fldI Tryd.prog 72 1 = some 1 := by kernel_rfl
theorem fl76_0 : fldI Tryd.prog 76 0 = some 0 := by kernel_rfl
theorem fl76_1 : fldI Tryd.prog 76 1 = some 2 := by kernel_rfl
theorem eqS48 (a b : Qry) (w : World) : (Op.equalIn 10000 48 (.agg #[strV a.text, .int .i64 a.k, .int .i64 a.n]) (.agg #[strV b.text, .int .i64 b.k, .int .i64 b.n])).run Tryd.prog w = .ok (decide (a = b)) w :=
  run_eq_flat (ks := [(0, .str), (1, .int .i64), (2, .int .i64)]) (by kernel_rfl) (by kernel_rfl) (by kernel_rfl) (by
    obtain ⟨a0, a1, a2⟩ := a
    obtain ⟨b0, b1, b2⟩ := b
    (by_cases h0 : a0 = b0) <;> (first | (have g0 := beq_eq_false_iff_ne.2 h0) | (have g0 := beq_iff_eq.2 h0)) <;> (by_cases h1 : a1 = b1) <;> (first | (have g1 := beq_eq_false_iff_ne.2 h1) | (have g1 := beq_iff_eq.2 h1)) <;> (by_cases h2 : a2 = b2) <;> (first | (have g2 := beq_eq_false_iff_ne.2 h2) | (have g2 := beq_iff_eq.2 h2)) <;> simp [eqCells, cellEq, strV, toList_mk, h0, h1, h2, g0, g1, g2]) w
theorem ti48_ : tyI Tryd.prog 48 = some (true, 3, 32, [strV [], .int .i64 0, .int .i64 0]) := by kernel_rfl
theorem eqS50 (a b : Evt) (w : World) : (Op.equalIn 10000 50 (.agg #[.int .i64 a.kind, .int .i64 a.node, .int .i64 a.at_, .int .i64 a.x, strV a.q.text, .int .i64 a.q.k, .int .i64 a.q.n]) (.agg #[.int .i64 b.kind, .int .i64 b.node, .int .i64 b.at_, .int .i64 b.x, strV b.q.text, .int .i64 b.q.k, .int .i64 b.q.n])).run Tryd.prog w = .ok (decide (a = b)) w := by
  obtain ⟨a0, a1, a2, a3, ⟨a4, a5, a6⟩⟩ := a
  obtain ⟨b0, b1, b2, b3, ⟨b4, b5, b6⟩⟩ := b
  refine (run_eq_tail (P := Tryd.prog) (t := 50) (t2 := 48) (k := 4) (o := 4) (ks := [(0, .int .i64), (1, .int .i64), (2, .int .i64), (3, .int .i64)]) (ks2 := [(0, .str), (1, .int .i64), (2, .int .i64)]) (q := (a0 == b0) && (a1 == b1) && (a2 == b2) && (a3 == b3)) (q2 := (a4 == b4) && (a5 == b5) && (a6 == b6)) (x2 := #[strV a4, .int .i64 a5, .int .i64 a6]) (y2 := #[strV b4, .int .i64 b5, .int .i64 b6]) (by kernel_rfl) (by kernel_rfl) (by kernel_rfl) (by kernel_rfl) (by kernel_rfl) (by kernel_rfl) (by kernel_rfl) ti48_ ?_ rfl rfl ?_ w).trans ?_
  · (by_cases h0 : a0 = b0) <;> (first | (have g0 := beq_eq_false_iff_ne.2 h0) | (have g0 := beq_iff_eq.2 h0)) <;> (by_cases h1 : a1 = b1) <;> (first | (have g1 := beq_eq_false_iff_ne.2 h1) | (have g1 := beq_iff_eq.2 h1)) <;> (by_cases h2 : a2 = b2) <;> (first | (have g2 := beq_eq_false_iff_ne.2 h2) | (have g2 := beq_iff_eq.2 h2)) <;> (by_cases h3 : a3 = b3) <;> (first | (have g3 := beq_eq_false_iff_ne.2 h3) | (have g3 := beq_iff_eq.2 h3)) <;> simp [eqCells, cellEq, strV, toList_mk, h0, h1, h2, h3, g0, g1, g2, g3]
  · (by_cases h4 : a4 = b4) <;> (first | (have g4 := beq_eq_false_iff_ne.2 h4) | (have g4 := beq_iff_eq.2 h4)) <;> (by_cases h5 : a5 = b5) <;> (first | (have g5 := beq_eq_false_iff_ne.2 h5) | (have g5 := beq_iff_eq.2 h5)) <;> (by_cases h6 : a6 = b6) <;> (first | (have g6 := beq_eq_false_iff_ne.2 h6) | (have g6 := beq_iff_eq.2 h6)) <;> simp [eqCells, cellEq, strV, toList_mk, h4, h5, h6, g4, g5, g6]
  · congr 1
    (by_cases h0 : a0 = b0) <;> (first | (have g0 := beq_eq_false_iff_ne.2 h0) | (have g0 := beq_iff_eq.2 h0)) <;> (by_cases h1 : a1 = b1) <;> (first | (have g1 := beq_eq_false_iff_ne.2 h1) | (have g1 := beq_iff_eq.2 h1)) <;> (by_cases h2 : a2 = b2) <;> (first | (have g2 := beq_eq_false_iff_ne.2 h2) | (have g2 := beq_iff_eq.2 h2)) <;> (by_cases h3 : a3 = b3) <;> (first | (have g3 := beq_eq_false_iff_ne.2 h3) | (have g3 := beq_iff_eq.2 h3)) <;> (by_cases h4 : a4 = b4) <;> (first | (have g4 := beq_eq_false_iff_ne.2 h4) | (have g4 := beq_iff_eq.2 h4)) <;> (by_cases h5 : a5 = b5) <;> (first | (have g5 := beq_eq_false_iff_ne.2 h5) | (have g5 := beq_iff_eq.2 h5)) <;> (by_cases h6 : a6 = b6) <;> (first | (have g6 := beq_eq_false_iff_ne.2 h6) | (have g6 := beq_iff_eq.2 h6)) <;> simp [h0, h1, h2, h3, h4, h5, h6, g0, g1, g2, g3, g4, g5, g6]
theorem eqS72 (a b : Key) (w : World) : (Op.equalIn 10000 72 (.agg #[.int .i64 a.len, strV a.text]) (.agg #[.int .i64 b.len, strV b.text])).run Tryd.prog w = .ok (decide (a = b)) w :=
  run_eq_flat (ks := [(0, .int .i64), (1, .str)]) (by kernel_rfl) (by kernel_rfl) (by kernel_rfl) (by
    obtain ⟨a0, a1⟩ := a
    obtain ⟨b0, b1⟩ := b
    (by_cases h0 : a0 = b0) <;> (first | (have g0 := beq_eq_false_iff_ne.2 h0) | (have g0 := beq_iff_eq.2 h0)) <;> (by_cases h1 : a1 = b1) <;> (first | (have g1 := beq_eq_false_iff_ne.2 h1) | (have g1 := beq_iff_eq.2 h1)) <;> simp [eqCells, cellEq, strV, toList_mk, h0, h1, g0, g1]) w
theorem cl8 : clB Tryd.prog 8 = true := by kernel_rfl
theorem cl9 : clB Tryd.prog 9 = true := by kernel_rfl
theorem cl10 : clB Tryd.prog 10 = true := by kernel_rfl
theorem cl11 : clB Tryd.prog 11 = true := by kernel_rfl
theorem cl12 : clB Tryd.prog 12 = true := by kernel_rfl
theorem cl13 : clB Tryd.prog 13 = true := by kernel_rfl
theorem cl14 : clB Tryd.prog 14 = true := by kernel_rfl
theorem cl15 : clB Tryd.prog 15 = true := by kernel_rfl
theorem cl16 : clB Tryd.prog 16 = true := by kernel_rfl
theorem cl17 : clB Tryd.prog 17 = true := by kernel_rfl
theorem cl18 : clB Tryd.prog 18 = true := by kernel_rfl
theorem cl19 : clB Tryd.prog 19 = true := by kernel_rfl
theorem cl20 : clB Tryd.prog 20 = true := by kernel_rfl
theorem cl21 : clB Tryd.prog 21 = true := by kernel_rfl
theorem cl22 : clB Tryd.prog 22 = true := by kernel_rfl
theorem cl23 : clB Tryd.prog 23 = true := by kernel_rfl
theorem cl24 : clB Tryd.prog 24 = true := by kernel_rfl
theorem cl25 : clB Tryd.prog 25 = true := by kernel_rfl
theorem cl26 : clB Tryd.prog 26 = true := by kernel_rfl
theorem cl27 : clB Tryd.prog 27 = true := by kernel_rfl
theorem cl28 : clB Tryd.prog 28 = true := by kernel_rfl
theorem cl29 : clB Tryd.prog 29 = true := by kernel_rfl
theorem cl30 : clB Tryd.prog 30 = true := by kernel_rfl
theorem cl31 : clB Tryd.prog 31 = true := by kernel_rfl
theorem cl32 : clB Tryd.prog 32 = true := by kernel_rfl
theorem cl33 : clB Tryd.prog 33 = true := by kernel_rfl
theorem cl34 : clB Tryd.prog 34 = true := by kernel_rfl
theorem cl35 : clB Tryd.prog 35 = true := by kernel_rfl
theorem cl36 : clB Tryd.prog 36 = true := by kernel_rfl
theorem cl37 : clB Tryd.prog 37 = true := by kernel_rfl
theorem cl38 : clB Tryd.prog 38 = true := by kernel_rfl
theorem cl39 : clB Tryd.prog 39 = true := by kernel_rfl
theorem cl40 : clB Tryd.prog 40 = true := by kernel_rfl
theorem cl41 : clB Tryd.prog 41 = true := by kernel_rfl
theorem cl42 : clB Tryd.prog 42 = true := by kernel_rfl
theorem cl43 : clB Tryd.prog 43 = true := by kernel_rfl
theorem cl44 : clB Tryd.prog 44 = true := by kernel_rfl
theorem cl45 : clB Tryd.prog 45 = true := by kernel_rfl
theorem cl46 : clB Tryd.prog 46 = true := by kernel_rfl
theorem cl47 : clB Tryd.prog 47 = true := by kernel_rfl
theorem cl48 : clB Tryd.prog 48 = true := by kernel_rfl
theorem cl49 : clB Tryd.prog 49 = true := by kernel_rfl
theorem cl50 : clB Tryd.prog 50 = true := by kernel_rfl
theorem cl51 : clB Tryd.prog 51 = true := by kernel_rfl
theorem cl52 : clB Tryd.prog 52 = true := by kernel_rfl
theorem cl55 : clB Tryd.prog 55 = true := by kernel_rfl
theorem cl56 : clB Tryd.prog 56 = true := by kernel_rfl
theorem cl57 : clB Tryd.prog 57 = true := by kernel_rfl
theorem cl58 : clB Tryd.prog 58 = true := by kernel_rfl
theorem cl64 : clB Tryd.prog 64 = true := by kernel_rfl
theorem cl65 : clB Tryd.prog 65 = true := by kernel_rfl
theorem cl66 : clB Tryd.prog 66 = true := by kernel_rfl
end Go.Proofs
