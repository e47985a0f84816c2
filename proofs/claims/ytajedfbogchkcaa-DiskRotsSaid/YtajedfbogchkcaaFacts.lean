/-
  Facts on the types and functions of the translation.
-/
import Derived.Test.YtajedfbogchkcaaProg
import Derived.Test.YtajedfbogchkcaaLibA
import Derived.Test.YtajedfbogchkcaaLibD
import Derived.Test.YtajedfbogchkcaaLibE
set_option linter.unusedVariables false
set_option linter.unusedSimpArgs false
namespace Go.Proofs
open Go.Ik Go.Ml
theorem mixed : Try.prog.follows .mixedOrders = true := by kernel_rfl
theorem ti3 : tyI Try.prog 3 = some (false, 1, 8, [.int .i64 0]) := by kernel_rfl
theorem ti4 : tyI Try.prog 4 = some (false, 1, 1, [.bool false]) := by kernel_rfl
theorem ti5 : tyI Try.prog 5 = some (false, 1, 1, [.int .u8 0]) := by kernel_rfl
theorem ti9 : tyI Try.prog 9 = some (false, 1, 16, [strV []]) := by kernel_rfl
theorem ti21 : tyI Try.prog 21 = some (false, 1, 4, [.int .i32 0]) := by kernel_rfl
theorem ti22 : tyI Try.prog 22 = some (false, 1, 24, [.slice none 0 0]) := by kernel_rfl
theorem ti25 : tyI Try.prog 25 = some (false, 1, 24, [.slice none 0 0]) := by kernel_rfl
theorem ti33 : tyI Try.prog 33 = some (false, 1, 8, [.pointer none]) := by kernel_rfl
theorem ti49 : tyI Try.prog 49 = some (false, 1, 24, [.slice none 0 0]) := by kernel_rfl
theorem ti51 : tyI Try.prog 51 = some (false, 1, 24, [.slice none 0 0]) := by kernel_rfl
theorem ti53 : tyI Try.prog 53 = some (true, 12, 128, [.slice none 0 0, .slice none 0 0, .int .i64 0, .int .i64 0, .int .i64 0, .int .i64 0, .int .i64 0, .int .i64 0, .int .i64 0, .int .i64 0, .int .i64 0, .int .i64 0]) := by kernel_rfl
theorem ti55 : tyI Try.prog 55 = some (false, 1, 24, [.slice none 0 0]) := by kernel_rfl
theorem ti84 : tyI Try.prog 84 = some (false, 1, 24, [.slice none 0 0]) := by kernel_rfl
theorem ti87 : tyI Try.prog 87 = some (false, 1, 8, [.map none]) := by kernel_rfl
theorem ti91 : tyI Try.prog 91 = some (true, 2, 32, [.bool false, .slice none 0 0]) := by kernel_rfl
theorem ti94 : tyI Try.prog 94 = some (true, 2, 16, [.int .i32 0, .int .i64 0]) := by kernel_rfl
theorem ti105 : tyI Try.prog 105 = some (true, 2, 32, [.bool false, .slice none 0 0]) := by kernel_rfl
theorem ti126 : tyI Try.prog 126 = some (true, 2, 24, [.int .i64 0, strV []]) := by kernel_rfl
theorem ti137 : tyI Try.prog 137 = some (false, 1, 8, [.map none]) := by kernel_rfl
theorem ti140 : tyI Try.prog 140 = some (false, 1, 24, [.slice none 0 0]) := by kernel_rfl
theorem ti144 : tyI Try.prog 144 = some (true, 2, 48, [.slice none 0 0, .slice none 0 0]) := by kernel_rfl
theorem ti173 : tyI Try.prog 173 = some (false, 1, 8, [.nilFunc]) := by kernel_rfl
theorem ti174 : tyI Try.prog 174 = some (false, 1, 8, [.nilFunc]) := by kernel_rfl
theorem fl53_0 : fldI Try.prog 53 0 = some 0 := by kernel_rfl
theorem fl53_1 : fldI Try.prog 53 1 = some 1 := by kernel_rfl
theorem fl53_2 : fldI Try.prog 53 2 = some 2 := by kernel_rfl
theorem fl53_3 : fldI Try.prog 53 3 = some 3 := by kernel_rfl
theorem fl53_4 : fldI Try.prog 53 4 = some 4 := by kernel_rfl
theorem fl53_5 : fldI Try.prog 53 5 = some 5 := by kernel_rfl
theorem fl53_6 : fldI Try.prog 53 6 = some 6 := by kernel_rfl
theorem fl53_7 : fldI Try.prog 53 7 = some 7 := by kernel_rfl
theorem fl53_8 : fldI Try.prog 53 8 = some 8 := by kernel_rfl
theorem fl53_9 : fldI Try.prog 53 9 = some 9 := by kernel_rfl
theorem fl53_10 : fldI Try.prog 53 10 = some 10 := by kernel_rfl
theorem fl53_11 : fldI Try.prog 53 11 = some 11 := by kernel_rfl
theorem fl66_1 : fldI Try.prog 66 1 = some 1 := by kernel_rfl
theorem fl66_2 : fldI Try.prog 66 2 = some 2 := by kernel_rfl
theorem fl66_3 : fldI Try.prog 66 3 = some 3 := by kernel_rfl
theorem fl86_0 : fldI Try.prog 86 0 = some 0 := by kernel_rfl
theorem fl89_0 : fldI Try.prog 89 0 = some 0 := by kernel_rfl
theorem fl89_1 : fldI Try.prog 89 1 = some 1 := by kernel_rfl
theorem fl91_0 : fldI Try.prog 91 0 = some 0 := by kernel_rfl
theorem fl91_1 : fldI Try.prog 91 1 = some 1 := by kernel_rfl
theorem fl94_0 : fldI Try.prog 94 0 = some 0 := by kernel_rfl
theorem fl94_1 : fldI Try.prog 94 1 = some 1 := by kernel_rfl
theorem fl101_0 : fldI Try.prog 101 0 = some 0 := by kernel_rfl
theorem fl101_1 : fldI Try.prog 101 1 = some 1 := by kernel_rfl
theorem fl101_2 : fldI Try.prog 101 2 = some 2 := by kernel_rfl
theorem fl105_0 : fldI Try.prog 105 0 = some 0 := by kernel_rfl
theorem fl105_1 : fldI Try.prog 105 1 = some 1 := by kernel_rfl
theorem fl126_0 : fldI Try.prog 126 0 = some 0 := by kernel_rfl
theorem fl126_1 : fldI Try.prog 126 1 = some 1 := by kernel_rfl
theorem fl136_0 : fldI Try.prog 136 0 = some 0 := by kernel_rfl
theorem fl136_1 : fldI Try.prog 136 1 = some 1 := by kernel_rfl
theorem fl139_0 : fldI Try.prog 139 0 = some 0 := by kernel_rfl
theorem fl139_1 : fldI Try.prog 139 1 = some 1 := by kernel_rfl
theorem fl142_0 : fldI Try.prog 142 0 = some 0 := by kernel_rfl
theorem fl144_0 : fldI Try.prog 144 0 = some 0 := by kernel_rfl
theorem fl144_1 : fldI Try.prog 144 1 = some 1 := by kernel_rfl
theorem eqS94 (a b : Ed) (w : World) : (Op.equalIn 10000 94 (.agg #[.int .i32 a.rune, .int .i64 a.to]) (.agg #[.int .i32 b.rune, .int .i64 b.to])).run Try.prog w = .ok (decide (a = b)) w :=
  run_eq_flat (ks := [(0, .int .i32), (1, .int .i64)]) (by kernel_rfl) (by kernel_rfl) (by kernel_rfl) (by
    obtain ⟨a0, a1⟩ := a
    obtain ⟨b0, b1⟩ := b
    (by_cases h0 : a0 = b0) <;> (first | (have g0 := beq_eq_false_iff_ne.2 h0) | (have g0 := beq_iff_eq.2 h0)) <;> (by_cases h1 : a1 = b1) <;> (first | (have g1 := beq_eq_false_iff_ne.2 h1) | (have g1 := beq_iff_eq.2 h1)) <;> simp [eqCells, cellEq, strV, toList_mk, h0, h1, g0, g1]) w
theorem cl13 : clB Try.prog 13 = true := by kernel_rfl
theorem cl14 : clB Try.prog 14 = true := by kernel_rfl
theorem cl15 : clB Try.prog 15 = true := by kernel_rfl
theorem cl16 : clB Try.prog 16 = true := by kernel_rfl
theorem cl17 : clB Try.prog 17 = true := by kernel_rfl
theorem cl18 : clB Try.prog 18 = true := by kernel_rfl
theorem cl19 : clB Try.prog 19 = true := by kernel_rfl
theorem cl20 : clB Try.prog 20 = true := by kernel_rfl
theorem cl21 : clB Try.prog 21 = true := by kernel_rfl
theorem cl22 : clB Try.prog 22 = true := by kernel_rfl
theorem cl23 : clB Try.prog 23 = true := by kernel_rfl
theorem cl27 : clB Try.prog 27 = true := by kernel_rfl
theorem cl28 : clB Try.prog 28 = true := by kernel_rfl
theorem cl29 : clB Try.prog 29 = true := by kernel_rfl
theorem cl30 : clB Try.prog 30 = true := by kernel_rfl
theorem cl31 : clB Try.prog 31 = true := by kernel_rfl
theorem cl32 : clB Try.prog 32 = true := by kernel_rfl
theorem cl33 : clB Try.prog 33 = true := by kernel_rfl
theorem cl34 : clB Try.prog 34 = true := by kernel_rfl
theorem cl35 : clB Try.prog 35 = true := by kernel_rfl
theorem cl36 : clB Try.prog 36 = true := by kernel_rfl
theorem cl37 : clB Try.prog 37 = true := by kernel_rfl
theorem cl38 : clB Try.prog 38 = true := by kernel_rfl
theorem cl39 : clB Try.prog 39 = true := by kernel_rfl
theorem cl40 : clB Try.prog 40 = true := by kernel_rfl
theorem cl41 : clB Try.prog 41 = true := by kernel_rfl
theorem cl42 : clB Try.prog 42 = true := by kernel_rfl
theorem cl43 : clB Try.prog 43 = true := by kernel_rfl
theorem cl44 : clB Try.prog 44 = true := by kernel_rfl
theorem cl45 : clB Try.prog 45 = true := by kernel_rfl
theorem cl46 : clB Try.prog 46 = true := by kernel_rfl
theorem cl47 : clB Try.prog 47 = true := by kernel_rfl
theorem cl48 : clB Try.prog 48 = true := by kernel_rfl
theorem cl49 : clB Try.prog 49 = true := by kernel_rfl
theorem cl50 : clB Try.prog 50 = true := by kernel_rfl
theorem cl51 : clB Try.prog 51 = true := by kernel_rfl
theorem cl52 : clB Try.prog 52 = true := by kernel_rfl
theorem cl53 : clB Try.prog 53 = true := by kernel_rfl
theorem cl54 : clB Try.prog 54 = true := by kernel_rfl
theorem cl55 : clB Try.prog 55 = true := by kernel_rfl
theorem cl56 : clB Try.prog 56 = true := by kernel_rfl
theorem cl57 : clB Try.prog 57 = true := by kernel_rfl
theorem cl58 : clB Try.prog 58 = true := by kernel_rfl
theorem cl59 : clB Try.prog 59 = true := by kernel_rfl
theorem cl60 : clB Try.prog 60 = true := by kernel_rfl
theorem cl61 : clB Try.prog 61 = true := by kernel_rfl
theorem cl62 : clB Try.prog 62 = true := by kernel_rfl
theorem cl63 : clB Try.prog 63 = true := by kernel_rfl
theorem cl64 : clB Try.prog 64 = true := by kernel_rfl
theorem cl65 : clB Try.prog 65 = true := by kernel_rfl
theorem cl66 : clB Try.prog 66 = true := by kernel_rfl
theorem cl67 : clB Try.prog 67 = true := by kernel_rfl
theorem cl68 : clB Try.prog 68 = true := by kernel_rfl
theorem cl69 : clB Try.prog 69 = true := by kernel_rfl
theorem cl73 : clB Try.prog 73 = true := by kernel_rfl
theorem cl75 : clB Try.prog 75 = true := by kernel_rfl
theorem cl76 : clB Try.prog 76 = true := by kernel_rfl
theorem cl77 : clB Try.prog 77 = true := by kernel_rfl
theorem cl78 : clB Try.prog 78 = true := by kernel_rfl
theorem cl79 : clB Try.prog 79 = true := by kernel_rfl
theorem cl80 : clB Try.prog 80 = true := by kernel_rfl
theorem cl81 : clB Try.prog 81 = true := by kernel_rfl
theorem cl82 : clB Try.prog 82 = true := by kernel_rfl
theorem cl83 : clB Try.prog 83 = true := by kernel_rfl
theorem cl84 : clB Try.prog 84 = true := by kernel_rfl
theorem cl85 : clB Try.prog 85 = true := by kernel_rfl
theorem cl86 : clB Try.prog 86 = true := by kernel_rfl
theorem cl87 : clB Try.prog 87 = true := by kernel_rfl
theorem cl88 : clB Try.prog 88 = true := by kernel_rfl
theorem cl89 : clB Try.prog 89 = true := by kernel_rfl
theorem cl90 : clB Try.prog 90 = true := by kernel_rfl
theorem cl91 : clB Try.prog 91 = true := by kernel_rfl
theorem cl92 : clB Try.prog 92 = true := by kernel_rfl
theorem cl93 : clB Try.prog 93 = true := by kernel_rfl
theorem cl94 : clB Try.prog 94 = true := by kernel_rfl
theorem cl95 : clB Try.prog 95 = true := by kernel_rfl
theorem cl96 : clB Try.prog 96 = true := by kernel_rfl
theorem cl97 : clB Try.prog 97 = true := by kernel_rfl
theorem cl98 : clB Try.prog 98 = true := by kernel_rfl
theorem cl99 : clB Try.prog 99 = true := by kernel_rfl
theorem cl100 : clB Try.prog 100 = true := by kernel_rfl
theorem cl101 : clB Try.prog 101 = true := by kernel_rfl
theorem cl102 : clB Try.prog 102 = true := by kernel_rfl
theorem cl104 : clB Try.prog 104 = true := by kernel_rfl
theorem cl105 : clB Try.prog 105 = true := by kernel_rfl
theorem cl106 : clB Try.prog 106 = true := by kernel_rfl
theorem cl109 : clB Try.prog 109 = true := by kernel_rfl
theorem cl110 : clB Try.prog 110 = true := by kernel_rfl
theorem cl111 : clB Try.prog 111 = true := by kernel_rfl
theorem cl112 : clB Try.prog 112 = true := by kernel_rfl
theorem cl113 : clB Try.prog 113 = true := by kernel_rfl
theorem cl114 : clB Try.prog 114 = true := by kernel_rfl
theorem cl115 : clB Try.prog 115 = true := by kernel_rfl
theorem cl116 : clB Try.prog 116 = true := by kernel_rfl
theorem cl117 : clB Try.prog 117 = true := by kernel_rfl
theorem cl118 : clB Try.prog 118 = true := by kernel_rfl
theorem cl119 : clB Try.prog 119 = true := by kernel_rfl
theorem cl123 : clB Try.prog 123 = true := by kernel_rfl
theorem cl124 : clB Try.prog 124 = true := by kernel_rfl
theorem cl125 : clB Try.prog 125 = true := by kernel_rfl
theorem cl126 : clB Try.prog 126 = true := by kernel_rfl
theorem cl127 : clB Try.prog 127 = true := by kernel_rfl
theorem cl138 : clB Try.prog 138 = true := by kernel_rfl
theorem cl139 : clB Try.prog 139 = true := by kernel_rfl
theorem cl140 : clB Try.prog 140 = true := by kernel_rfl
theorem cl141 : clB Try.prog 141 = true := by kernel_rfl
theorem cl142 : clB Try.prog 142 = true := by kernel_rfl
theorem cl151 : clB Try.prog 151 = true := by kernel_rfl
theorem cl152 : clB Try.prog 152 = true := by kernel_rfl
theorem cl153 : clB Try.prog 153 = true := by kernel_rfl
theorem cl154 : clB Try.prog 154 = true := by kernel_rfl
theorem cl158 : clB Try.prog 158 = true := by kernel_rfl
end Go.Proofs
