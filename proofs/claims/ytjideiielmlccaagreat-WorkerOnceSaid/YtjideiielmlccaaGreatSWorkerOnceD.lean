/-
  What the law WorkerOnce needs, part 4 of 7: theory, and walks through the code.
-/
import Derived.Test.YtjideiielmlccaaGreatSWorkerOnceC
set_option linter.unusedVariables false
set_option linter.unusedSimpArgs false
namespace Go.Proofs
open Go.Ik Go.Ml
theorem mixed : Tryz.prog.follows .mixedOrders = true := by kernel_rfl
theorem ti3 : tyI Tryz.prog 3 = some (false, 1, 8, [.int .i64 0]) := by kernel_rfl
theorem ti4 : tyI Tryz.prog 4 = some (false, 1, 1, [.bool false]) := by kernel_rfl
theorem ti5 : tyI Tryz.prog 5 = some (false, 1, 1, [.int .u8 0]) := by kernel_rfl
theorem ti9 : tyI Tryz.prog 9 = some (false, 1, 16, [strV []]) := by kernel_rfl
theorem ti21 : tyI Tryz.prog 21 = some (false, 1, 4, [.int .i32 0]) := by kernel_rfl
theorem ti23 : tyI Tryz.prog 23 = some (false, 1, 24, [.slice none 0 0]) := by kernel_rfl
theorem ti24 : tyI Tryz.prog 24 = some (false, 1, 24, [.slice none 0 0]) := by kernel_rfl
theorem ti26 : tyI Tryz.prog 26 = some (true, 12, 128, [.slice none 0 0, .slice none 0 0, .int .i64 0, .int .i64 0, .int .i64 0, .int .i64 0, .int .i64 0, .int .i64 0, .int .i64 0, .int .i64 0, .int .i64 0, .int .i64 0]) := by kernel_rfl
theorem ti33 : tyI Tryz.prog 33 = some (true, 2, 24, [.int .i64 0, strV []]) := by kernel_rfl
theorem ti35 : tyI Tryz.prog 35 = some (true, 11, 104, [.int .i64 0, .int .i64 0, .int .i64 0, .int .i64 0, .int .i64 0, strV [], .int .i64 0, .int .i64 0, .bool false, .int .i64 0, strV []]) := by kernel_rfl
theorem ti47 : tyI Tryz.prog 47 = some (false, 1, 24, [.slice none 0 0]) := by kernel_rfl
theorem ti57 : tyI Tryz.prog 57 = some (false, 1, 24, [.slice none 0 0]) := by kernel_rfl
theorem ti93 : tyI Tryz.prog 93 = some (false, 1, 8, [.pointer none]) := by kernel_rfl
theorem ti99 : tyI Tryz.prog 99 = some (false, 1, 8, [.pointer none]) := by kernel_rfl
theorem ti110 : tyI Tryz.prog 110 = some (true, 2, 24, [.int .i64 0, strV []]) := by kernel_rfl
theorem ti120 : tyI Tryz.prog 120 = some (false, 1, 24, [.slice none 0 0]) := by kernel_rfl
theorem ti157 : tyI Tryz.prog 157 = some (false, 1, 8, [.nilFunc]) := by kernel_rfl
theorem ti162 : tyI Tryz.prog 162 = some (false, 1, 8, [.map none]) := by kernel_rfl
theorem ti172 : tyI Tryz.prog 172 = some (true, 2, 16, [.int .i64 0, .int .i64 0]) := by kernel_rfl
theorem ti173 : tyI Tryz.prog 173 = some (false, 1, 24, [.slice none 0 0]) := by kernel_rfl
theorem ti174 : tyI Tryz.prog 174 = some (false, 1, 8, [.map none]) := by kernel_rfl
theorem ti219 : tyI Tryz.prog 219 = some (false, 1, 24, [.slice none 0 0]) := by kernel_rfl
theorem ti221 : tyI Tryz.prog 221 = some (true, 2, 32, [.bool false, .slice none 0 0]) := by kernel_rfl
theorem ti225 : tyI Tryz.prog 225 = some (false, 1, 24, [.slice none 0 0]) := by kernel_rfl
theorem ti228 : tyI Tryz.prog 228 = some (true, 3, 48, [.int .i64 0, .slice none 0 0, strV []]) := by kernel_rfl
theorem ti233 : tyI Tryz.prog 233 = some (true, 2, 16, [.int .i32 0, .int .i64 0]) := by kernel_rfl
theorem ti238 : tyI Tryz.prog 238 = some (true, 2, 32, [.bool false, .slice none 0 0]) := by kernel_rfl
theorem ti262 : tyI Tryz.prog 262 = some (false, 1, 24, [.slice none 0 0]) := by kernel_rfl
theorem ti268 : tyI Tryz.prog 268 = some (true, 2, 16, [.int .i64 0, .int .i64 0]) := by kernel_rfl
theorem ti281 : tyI Tryz.prog 281 = some (false, 1, 8, [.map none]) := by kernel_rfl
theorem ti285 : tyI Tryz.prog 285 = some (false, 1, 8, [.nilFunc]) := by kernel_rfl
theorem fl26_0 : fldI Tryz.prog 26 0 = some 0 := by kernel_rfl
theorem fl26_1 : fldI Tryz.prog 26 1 = some 1 := by kernel_rfl
theorem fl26_2 : fldI Tryz.prog 26 2 = some 2 := by kernel_rfl
theorem fl26_3 : fldI Tryz.prog 26 3 = some 3 := by kernel_rfl
theorem fl26_4 : fldI Tryz.prog 26 4 = some 4 := by kernel_rfl
theorem fl26_5 : fldI Tryz.prog 26 5 = some 5 := by kernel_rfl
theorem fl26_6 : fldI Tryz.prog 26 6 = some 6 := by kernel_rfl
theorem fl26_7 : fldI Tryz.prog 26 7 = some 7 := by kernel_rfl
theorem fl26_8 : fldI Tryz.prog 26 8 = some 8 := by kernel_rfl
theorem fl26_9 : fldI Tryz.prog 26 9 = some 9 := by kernel_rfl
theorem fl26_10 : fldI Tryz.prog 26 10 = some 10 := by kernel_rfl
theorem fl26_11 : fldI Tryz.prog 26 11 = some 11 := by kernel_rfl
theorem fl33_0 : fldI Tryz.prog 33 0 = some 0 := by kernel_rfl
theorem fl33_1 : fldI Tryz.prog 33 1 = some 1 := by kernel_rfl
theorem fl35_0 : fldI Tryz.prog 35 0 = some 0 := by kernel_rfl
theorem fl35_1 : fldI Tryz.prog 35 1 = some 1 := by kernel_rfl
theorem fl35_2 : fldI Tryz.prog 35 2 = some 2 := by kernel_rfl
theorem fl35_3 : fldI Tryz.prog 35 3 = some 3 := by kernel_rfl
theorem fl35_4 : fldI Tryz.prog 35 4 = some 4 := by kernel_rfl
theorem fl35_5 : fldI Tryz.prog 35 5 = some 5 := by kernel_rfl
theorem fl35_6 : fldI Tryz.prog 35 6 = some 6 := by kernel_rfl
theorem fl35_7 : fldI Tryz.prog 35 7 = some 7 := by kernel_rfl
theorem fl35_8 : fldI Tryz.prog 35 8 = some 8 := by kernel_rfl
theorem fl35_9 : fldI Tryz.prog 35 9 = some 9 := by kernel_rfl
theorem fl110_0 : fldI Tryz.prog 110 0 = some 0 := by kernel_rfl
theorem fl110_1 : fldI Tryz.prog 110 1 = some 1 := by kernel_rfl
theorem fl123_1 : fldI Tryz.prog 123 1 = some 1 := by kernel_rfl
theorem fl164_0 : fldI Tryz.prog 164 0 = some 0 := by kernel_rfl
theorem fl164_1 : fldI Tryz.prog 164 1 = some 1 := by kernel_rfl
theorem fl176_0 : fldI Tryz.prog 176 0 = some 0 := by kernel_rfl
theorem fl176_1 : fldI Tryz.prog 176 1 = some 1 := by kernel_rfl
theorem fl217_0 : fldI Tryz.prog 217 0 = some 0 := by kernel_rfl
theorem fl217_1 : fldI Tryz.prog 217 1 = some 1 := by kernel_rfl
theorem fl217_2 : fldI Tryz.prog 217 2 = some 2 := by kernel_rfl
theorem fl221_0 : fldI Tryz.prog 221 0 = some 0 := by kernel_rfl
theorem fl221_1 : fldI Tryz.prog 221 1 = some 1 := by kernel_rfl
theorem fl228_0 : fldI Tryz.prog 228 0 = some 0 := by kernel_rfl
theorem fl228_1 : fldI Tryz.prog 228 1 = some 1 := by kernel_rfl
theorem fl228_2 : fldI Tryz.prog 228 2 = some 2 := by kernel_rfl
theorem fl233_0 : fldI Tryz.prog 233 0 = some 0 := by kernel_rfl
theorem fl233_1 : fldI Tryz.prog 233 1 = some 1 := by kernel_rfl
theorem fl238_0 : fldI Tryz.prog 238 0 = some 0 := by kernel_rfl
theorem fl238_1 : fldI Tryz.prog 238 1 = some 1 := by kernel_rfl
theorem fl264_0 : fldI Tryz.prog 264 0 = some 0 := by kernel_rfl
theorem fl268_0 : fldI Tryz.prog 268 0 = some 0 := by kernel_rfl
theorem fl268_1 : fldI Tryz.prog 268 1 = some 1 := by kernel_rfl
theorem fl283_0 : fldI Tryz.prog 283 0 = some 0 := by kernel_rfl
theorem fl283_1 : fldI Tryz.prog 283 1 = some 1 := by kernel_rfl
theorem eqS33 (a b : Itm) (w : World) : (Op.equalIn 10000 33 (.agg #[.int .i64 a.dist, strV a.word]) (.agg #[.int .i64 b.dist, strV b.word])).run Tryz.prog w = .ok (decide (a = b)) w :=
  run_eq_flat (ks := [(0, .int .i64), (1, .str)]) (by kernel_rfl) (by kernel_rfl) (by kernel_rfl) (by
    obtain ⟨a0, a1⟩ := a
    obtain ⟨b0, b1⟩ := b
    (by_cases h0 : a0 = b0) <;> (first | (have g0 := beq_eq_false_iff_ne.2 h0) | (have g0 := beq_iff_eq.2 h0)) <;> (by_cases h1 : a1 = b1) <;> (first | (have g1 := beq_eq_false_iff_ne.2 h1) | (have g1 := beq_iff_eq.2 h1)) <;> simp [eqCells, cellEq, strV, toList_mk, h0, h1, g0, g1]) w
theorem eqS172 (a b : (Int × Int)) (w : World) : (Op.equalIn 10000 172 (.agg #[.int .i64 a.1, .int .i64 a.2]) (.agg #[.int .i64 b.1, .int .i64 b.2])).run Tryz.prog w = .ok (decide (a = b)) w :=
  run_eq_flat (ks := [(0, .int .i64), (1, .int .i64)]) (by kernel_rfl) (by kernel_rfl) (by kernel_rfl) (by
    obtain ⟨a0, a1⟩ := a
    obtain ⟨b0, b1⟩ := b
    (by_cases h0 : a0 = b0) <;> (first | (have g0 := beq_eq_false_iff_ne.2 h0) | (have g0 := beq_iff_eq.2 h0)) <;> (by_cases h1 : a1 = b1) <;> (first | (have g1 := beq_eq_false_iff_ne.2 h1) | (have g1 := beq_iff_eq.2 h1)) <;> simp [eqCells, cellEq, strV, toList_mk, h0, h1, g0, g1]) w
theorem eqS233 (a b : Ed) (w : World) : (Op.equalIn 10000 233 (.agg #[.int .i32 a.rune, .int .i64 a.to]) (.agg #[.int .i32 b.rune, .int .i64 b.to])).run Tryz.prog w = .ok (decide (a = b)) w :=
  run_eq_flat (ks := [(0, .int .i32), (1, .int .i64)]) (by kernel_rfl) (by kernel_rfl) (by kernel_rfl) (by
    obtain ⟨a0, a1⟩ := a
    obtain ⟨b0, b1⟩ := b
    (by_cases h0 : a0 = b0) <;> (first | (have g0 := beq_eq_false_iff_ne.2 h0) | (have g0 := beq_iff_eq.2 h0)) <;> (by_cases h1 : a1 = b1) <;> (first | (have g1 := beq_eq_false_iff_ne.2 h1) | (have g1 := beq_iff_eq.2 h1)) <;> simp [eqCells, cellEq, strV, toList_mk, h0, h1, g0, g1]) w
theorem cl23 : clB Tryz.prog 23 = true := by kernel_rfl
theorem cl25 : clB Tryz.prog 25 = true := by kernel_rfl
theorem cl39 : clB Tryz.prog 39 = true := by kernel_rfl
theorem cl44 : clB Tryz.prog 44 = true := by kernel_rfl
theorem cl54 : clB Tryz.prog 54 = true := by kernel_rfl
theorem cl55 : clB Tryz.prog 55 = true := by kernel_rfl
theorem cl56 : clB Tryz.prog 56 = true := by kernel_rfl
theorem cl57 : clB Tryz.prog 57 = true := by kernel_rfl
theorem cl58 : clB Tryz.prog 58 = true := by kernel_rfl
theorem cl59 : clB Tryz.prog 59 = true := by kernel_rfl
theorem cl60 : clB Tryz.prog 60 = true := by kernel_rfl
theorem cl61 : clB Tryz.prog 61 = true := by kernel_rfl
theorem cl79 : clB Tryz.prog 79 = true := by kernel_rfl
theorem cl82 : clB Tryz.prog 82 = true := by kernel_rfl
theorem cl85 : clB Tryz.prog 85 = true := by kernel_rfl
theorem cl90 : clB Tryz.prog 90 = true := by kernel_rfl
theorem cl91 : clB Tryz.prog 91 = true := by kernel_rfl
theorem cl96 : clB Tryz.prog 96 = true := by kernel_rfl
theorem cl99 : clB Tryz.prog 99 = true := by kernel_rfl
theorem cl100 : clB Tryz.prog 100 = true := by kernel_rfl
theorem cl102 : clB Tryz.prog 102 = true := by kernel_rfl
theorem cl103 : clB Tryz.prog 103 = true := by kernel_rfl
theorem cl104 : clB Tryz.prog 104 = true := by kernel_rfl
theorem cl105 : clB Tryz.prog 105 = true := by kernel_rfl
theorem cl106 : clB Tryz.prog 106 = true := by kernel_rfl
theorem cl124 : clB Tryz.prog 124 = true := by kernel_rfl
theorem cl125 : clB Tryz.prog 125 = true := by kernel_rfl
theorem cl126 : clB Tryz.prog 126 = true := by kernel_rfl
theorem cl127 : clB Tryz.prog 127 = true := by kernel_rfl
theorem cl133 : clB Tryz.prog 133 = true := by kernel_rfl
theorem cl134 : clB Tryz.prog 134 = true := by kernel_rfl
theorem cl135 : clB Tryz.prog 135 = true := by kernel_rfl
theorem cl136 : clB Tryz.prog 136 = true := by kernel_rfl
theorem cl137 : clB Tryz.prog 137 = true := by kernel_rfl
theorem cl138 : clB Tryz.prog 138 = true := by kernel_rfl
theorem cl139 : clB Tryz.prog 139 = true := by kernel_rfl
theorem cl140 : clB Tryz.prog 140 = true := by kernel_rfl
theorem cl142 : clB Tryz.prog 142 = true := by kernel_rfl
theorem cl143 : clB Tryz.prog 143 = true := by kernel_rfl
theorem cl144 : clB Tryz.prog 144 = true := by kernel_rfl
theorem cl145 : clB Tryz.prog 145 = true := by kernel_rfl
theorem cl146 : clB Tryz.prog 146 = true := by kernel_rfl
theorem cl147 : clB Tryz.prog 147 = true := by kernel_rfl
theorem cl148 : clB Tryz.prog 148 = true := by kernel_rfl
theorem cl149 : clB Tryz.prog 149 = true := by kernel_rfl
theorem cl150 : clB Tryz.prog 150 = true := by kernel_rfl
theorem cl166 : clB Tryz.prog 166 = true := by kernel_rfl
theorem cl170 : clB Tryz.prog 170 = true := by kernel_rfl
theorem cl171 : clB Tryz.prog 171 = true := by kernel_rfl
theorem cl172 : clB Tryz.prog 172 = true := by kernel_rfl
theorem cl173 : clB Tryz.prog 173 = true := by kernel_rfl
theorem cl174 : clB Tryz.prog 174 = true := by kernel_rfl
theorem cl175 : clB Tryz.prog 175 = true := by kernel_rfl
theorem cl176 : clB Tryz.prog 176 = true := by kernel_rfl
theorem cl177 : clB Tryz.prog 177 = true := by kernel_rfl
theorem cl178 : clB Tryz.prog 178 = true := by kernel_rfl
theorem cl179 : clB Tryz.prog 179 = true := by kernel_rfl
theorem cl180 : clB Tryz.prog 180 = true := by kernel_rfl
theorem cl181 : clB Tryz.prog 181 = true := by kernel_rfl
theorem cl182 : clB Tryz.prog 182 = true := by kernel_rfl
theorem cl183 : clB Tryz.prog 183 = true := by kernel_rfl
theorem cl194 : clB Tryz.prog 194 = true := by kernel_rfl
theorem cl195 : clB Tryz.prog 195 = true := by kernel_rfl
theorem cl196 : clB Tryz.prog 196 = true := by kernel_rfl
theorem cl197 : clB Tryz.prog 197 = true := by kernel_rfl
theorem cl198 : clB Tryz.prog 198 = true := by kernel_rfl
theorem cl208 : clB Tryz.prog 208 = true := by kernel_rfl
theorem cl209 : clB Tryz.prog 209 = true := by kernel_rfl
theorem cl210 : clB Tryz.prog 210 = true := by kernel_rfl
theorem cl219 : clB Tryz.prog 219 = true := by kernel_rfl
end Go.Proofs
namespace Go.Proofs
open Go.Ik Go.Ml
set_option maxRecDepth 20000 in
set_option maxHeartbeats 4000000 in
theorem turn_c {w0 : World}  (c : Nat) (b : UInt8) (h_c : c < 4294967296) :
    Calls Tryz.prog 196 #[.int .u32 (((c : Nat) : Int)), .int .u8 ((b.toNat : Int))] w0 (Ret fun rv w1 => rv = .int .u32 (((turnN c b.toNat : Nat) : Int)) ∧ Ext w0 w1) := by
  have hE0 : Ext w0 w0 := Mod.refl _ _
  have hbb := b.toNat_lt
  refine calls_enter Tryz.func196 rfl Tryz.ntmps196 rfl ?_
  refine .go 8 rfl ?_
  refine .z (.convN (by kernel_rfl) Tryz.underlying213 rfl (IntWalk.u32_in _ (by omega))) ?_
  have hxl1 := xor_lt32 (a := c) (b := b.toNat) (by omega) (by omega)
  refine .z (.xor32 (a := c) (b := b.toNat) rfl rfl (by omega) (by omega)) ?_
  refine .gi 8 rfl ?_
  refine r_loop (I := fun m E W => ∃ (c1 : Nat) (k : Nat), E = [(0, .int .u32 (((c1 : Nat) : Int))), (10, .int .i64 (((k : Nat) : Int)))] ∧ m = 8 - k ∧ Ext w0 W ∧ w0.heap.size ≤ W.heap.size ∧ (c1 = crcK k (c ^^^ b.toNat)) ∧ (c1 < 4294967296) ∧ (k ≤ 8)) ?_ ?_
  · refine ⟨_, _, ⟨(c ^^^ b.toNat : Nat), (0 : Nat), rfl, rfl, hE0, Nat.le_refl _, (by rfl), (by omega), (by omega)⟩, ⟨rfl, rfl, trivial⟩⟩
  · rintro _ _ w1 ⟨c1, k, rfl, rfl, hE1, hs1, hc, hcl, hk8⟩ ih1
    refine .go 2 rfl ?_
    refine .zb (.lt rfl rfl) fun b1 hb1 => ?_
    refine .gi 2 rfl ?_
    cases b1
    case true =>
      replace hb1 := dt hb1
      refine .go 7 rfl ?_
      refine .z (.and1 (a := c1) rfl rfl (by omega)) ?_
      refine .go 5 rfl ?_
      refine .z (.shr1 (((c1 / 2 : Nat) : Int)) rfl rfl (by omega)) ?_
      refine .go 5 rfl ?_
      refine .zb (.eq rfl rfl) fun b2 hb2 => ?_
      refine .gi 1 rfl ?_
      cases b2
      case true =>
        replace hb2 := eq_of_beq hb2.symm
        have hxl2 := xor_lt32 (a := c1 / 2) (b := 3988292384) (by omega) (by omega)
        refine .go 3 rfl ?_
        refine .z (.xor32 (a := c1 / 2) (b := 3988292384) rfl rfl (by omega) (by omega)) ?_
        refine .go 4 rfl ?_
        refine .z (.addI (((k + 1 : Nat) : Int)) rfl rfl (by omega)) ?_
        refine .gi 2 rfl ?_
        exact (ih1 _ _ _ ⟨((c1 / 2) ^^^ 3988292384 : Nat), (k + 1 : Nat), rfl, rfl, hE1, (by omega), (by first | exact crc_one hc (by omega) | exact crc_nil hc (by omega) | (exfalso; omega)), (by first | omega | (exfalso; omega)), (by first | omega | (exfalso; omega))⟩ (by omega)).sub ⟨rfl, rfl, trivial⟩
      replace hb2 := ne_of_beq_false hb2.symm
      refine .go 4 rfl ?_
      refine .z (.addI (((k + 1 : Nat) : Int)) rfl rfl (by omega)) ?_
      refine .gi 2 rfl ?_
      exact (ih1 _ _ _ ⟨(c1 / 2 : Nat), (k + 1 : Nat), rfl, rfl, hE1, (by omega), (by first | exact crc_one hc (by omega) | exact crc_nil hc (by omega) | (exfalso; omega)), (by first | omega | (exfalso; omega)), (by first | omega | (exfalso; omega))⟩ (by omega)).sub ⟨rfl, rfl, trivial⟩
    replace hb1 := df hb1
    refine .gi 7 rfl ?_
    refine r_ret1 Tryz.func196 rfl rfl ?_
    exact Ret.mk ⟨(congrArg (Value.int .u32) (by first | (rw [hc, show k = 8 from by omega]; rfl) | (exfalso; omega))), hE1⟩
set_option maxRecDepth 20000 in
set_option maxHeartbeats 4000000 in
theorem sumadd_c {w0 : World}  (c : Nat) {v_b : Value} {b : List UInt8} (h_c : c < 4294967296) (h_b : Sl encB w0 (Iv 0 w0.heap.size) v_b b) (hbl : b.length ≤ 4000000) :
    Calls Tryz.prog 173 #[.int .u32 (((c : Nat) : Int)), v_b] w0 (Ret fun rv w1 => rv = .int .u32 (((sumF c b : Nat) : Int)) ∧ Ext w0 w1) := by
  have hE0 : Ext w0 w0 := Mod.refl _ _
  have hle1 := h_b.le
  refine calls_enter Tryz.func173 rfl Tryz.ntmps173 rfl ?_
  refine .go 7 rfl ?_
  refine .z (.not32 (a := c) rfl (by omega)) ?_
  refine .go 6 rfl ?_
  refine .z (.lenSl Tryz.underlying120 (h_b) rfl) ?_
  refine .gi 3 rfl ?_
  refine r_loop (I := fun m E W => ∃ (c1 : Nat) (k : Nat), E = [(0, .int .u32 (((c1 : Nat) : Int))), (9, v_b), (10, .int .i64 (((b.length : Nat) : Int))), (11, .int .i64 (((k : Nat) : Int)))] ∧ m = b.length - k ∧ Ext w0 W ∧ w0.heap.size ≤ W.heap.size ∧ Sl encB W (Iv 0 w0.heap.size) v_b b ∧ (c1 = crcF (4294967295 - c) (b.take k)) ∧ (c1 < 4294967296) ∧ (k ≤ b.length)) ?_ ?_
  · refine ⟨_, _, ⟨(4294967295 - c : Nat), (0 : Nat), rfl, rfl, hE0, Nat.le_refl _, h_b, (by rfl), (by omega), (by omega)⟩, ⟨rfl, rfl, rfl, rfl, trivial⟩⟩
  · rintro _ _ w1 ⟨c1, k, rfl, rfl, hE1, hs1, f1, hc, hcl, hkl⟩ ih1
    refine .go 2 rfl ?_
    refine .zb (.lt rfl rfl) fun b1 hb1 => ?_
    refine .gi 2 rfl ?_
    cases b1
    case true =>
      replace hb1 := dt hb1
      obtain ⟨x1, b2, o1, hx1, hr1, hl1, hu1, hw1⟩ := Sl.at' (P := Tryz.prog) f1 Tryz.underlying120 ti5 encB_len (k := .i64) (n := ((k : Nat) : Int)) (k) (by omega) ao
      refine .go 6 rfl ?_
      refine .z (.indexAddr rfl rfl hr1) ?_
      refine .z (.lr ti5 hw1) ?_
      have hx1b := x1.toNat_lt
      refine .go 5 rfl ?_
      refine .ac (.callF cl196 rfl (turn_c (w0 := w1)  (c1) (x1) oa) ?_)
      rintro _ w2 ⟨rfl, hm1⟩
      have f2 := f1.ext hm1
      have hE2 := hE1.ext hm1
      have hs2 := hm1.size
      have := turnN_ltE c1 x1 (by omega)
      refine .go 4 rfl ?_
      refine .z (.addI (((k + 1 : Nat) : Int)) rfl rfl (by omega)) ?_
      refine .gi 2 rfl ?_
      exact (ih1 _ _ _ ⟨(turnN c1 x1.toNat : Nat), (k + 1 : Nat), rfl, rfl, hE2, (by omega), f2, (by first | (rw [crcF_take hx1, ← hc]) | (exfalso; omega)), (by first | exact turnN_lt hcl x1.toNat_lt | (exfalso; omega)), (by first | omega | (exfalso; omega))⟩ (by omega)).sub ⟨rfl, rfl, rfl, rfl, trivial⟩
    replace hb1 := df hb1
    refine .go 5 rfl ?_
    refine .z (.not32 (a := c1) rfl (by omega)) ?_
    refine .gi 2 rfl ?_
    refine r_ret1 Tryz.func173 rfl rfl ?_
    exact Ret.mk ⟨(congrArg (Value.int .u32) (by first | (rw [hc, List.take_of_length_le (by omega)]; rfl) | (exfalso; omega))), hE1⟩
set_option maxRecDepth 20000 in
set_option maxHeartbeats 4000000 in
theorem sumof_c {w0 : World}  {v_b : Value} {b : List UInt8} (h_b : Sl encB w0 (Iv 0 w0.heap.size) v_b b) (hbl : b.length ≤ 4000000) :
    Calls Tryz.prog 137 #[v_b] w0 (Ret fun rv w1 => rv = .int .u32 (((sumN b : Nat) : Int)) ∧ Ext w0 w1) := by
  have hE0 : Ext w0 w0 := Mod.refl _ _
  have hle1 := h_b.le
  refine calls_enter Tryz.func137 rfl Tryz.ntmps137 rfl ?_
  refine .go 7 rfl ?_
  refine .ac (.callF cl173 rfl (sumadd_c (w0 := w0) (b := b) (0) oa ((h_b).iv (Nat.zero_le _) (by omega)) (by first | assumption | omega | (simp only [List.length_append, putN_len, List.length_cons, List.length_nil]; omega))) ?_)
  rintro _ w1 ⟨rfl, hm1⟩
  have hE1 := hE0.ext hm1
  have hs1 := hm1.size
  have := sumF_lt 0 b
  refine .gi 2 rfl ?_
  refine r_ret1 Tryz.func137 rfl rfl ?_
  exact Ret.mk ⟨(congrArg (Value.int .u32) (by rfl)), hE1⟩
set_option maxRecDepth 20000 in
set_option maxHeartbeats 4000000 in
theorem cloneB_c {w0 : World}  {v_s : Value} {s : List UInt8} (h_s : Sl encB w0 (Iv 0 w0.heap.size) v_s s) (hln : s.length ≤ 4000000) :
    Calls Tryz.prog 61 #[v_s] w0 (Ret fun rv w1 => (∃ gr, Acc encB 5 1 w1 gr rv (s) ∧ (gr = 0 ∨ w0.heap.size < gr)) ∧ Ext w0 w1) := by
  have hE0 : Ext w0 w0 := Mod.refl _ _
  have hle1 := h_s.le
  refine calls_enter Tryz.func61 rfl Tryz.ntmps61 rfl ?_
  obtain ⟨ad1, cp1, hv1, hz1⟩ := Sl.isNil (h_s)
  refine .go 8 rfl ?_
  subst hv1
  refine .zb (.eqNilSl Tryz.underlying120 rfl rfl) fun b1 hb1 => ?_
  refine .gi 1 rfl ?_
  cases b1
  case true =>
    replace hb1 := hb1.symm
    replace hz1 := hz1 hb1
    refine .gi 5 rfl ?_
    refine r_ret1 Tryz.func61 rfl rfl ?_
    exact Ret.mk ⟨⟨0, Acc.cast Acc.nil (by first | (symm; assumption) | simp | (exfalso; omega)), .inl rfl⟩, hE0⟩
  replace hb1 := hb1.symm
  refine .go 4 rfl ?_
  refine .ac (.buildSlice [] Tryz.underlying120 ti5 rfl rfl rfl (by decide) fun w1 b2 hm1 hb2 hz2 hk1 => ?_)
  have f1 := h_s.ext hm1
  have hE1 := hE0.ext hm1
  have hs1 := hm1.size
  have hl1 := Acc.of_blk (enc := encB) hk1 ([] : List UInt8) 0 rfl encB_len rfl (by unfold maxLen; omega)
  have hl2 := hl1.lt
  refine .go 1 rfl ?_
  refine .ac (.append hl1 Tryz.underlying120 ti5 rfl encB_len encB_one rfl rfl (f1) ol ox fun v1 g1 w2 ha1 hm2 hg1 hz3 => ?_)
  have hl3 := hl1.lt
  have hE2 := Ext.thenG hE1 hm2 (by omega)
  have hs2 := hm2.size
  refine .gi 2 rfl ?_
  refine r_ret1 Tryz.func61 rfl rfl ?_
  exact Ret.mk ⟨⟨_, Acc.cast ha1 (by first | (symm; assumption) | simp | (exfalso; omega)), by omega⟩, hE2⟩
set_option maxRecDepth 20000 in
set_option maxHeartbeats 4000000 in
theorem put_c {w0 : World}  {v_b : Value} {b : List UInt8} (n : Int) (size : Nat) (h_b : Sl encB w0 (Iv 0 w0.heap.size) v_b b) (hbl : b.length ≤ 4000000) (hsz : size ≤ 8) :
    Calls Tryz.prog 195 #[v_b, .int .i64 n, .int .i64 (((size : Nat) : Int))] w0 (Ret fun rv w1 => (∃ gr, Acc encB 5 1 w1 gr rv (b ++ putN n size) ∧ (gr = 0 ∨ w0.heap.size < gr)) ∧ Ext w0 w1) := by
  have hE0 : Ext w0 w0 := Mod.refl _ _
  have hle1 := h_b.le
  refine calls_enter Tryz.func195 rfl Tryz.ntmps195 rfl ?_
  refine .go 7 rfl ?_
  refine .ac (.callF cl61 rfl (cloneB_c (w0 := w0) (s := b)  ((h_b).iv (Nat.zero_le _) (by omega)) ao) ?_)
  rintro v1 w1 ⟨⟨gr1, h1, hg1⟩, hm1⟩
  have hE1 := hE0.ext hm1
  have hs1 := hm1.size
  have hle_1 := h1.le
  have hlt_1 := h1.lt
  refine .go 5 rfl ?_
  refine .z (.max rfl rfl) ?_
  refine .z (.min rfl rfl) ?_
  rw [show (min (max (size : Int) 0) 8) = ((size : Nat) : Int) from by omega]
  refine .gi 9 rfl ?_
  refine r_loop (I := fun m E W => ∃ (v_out : Value) (g_out : Nat) (out : List UInt8) (i : Nat), E = [(1, .int .i64 n), (2, .int .i64 (((size : Nat) : Int))), (7, v_out), (14, .int .i64 (((size : Nat) : Int))), (15, .int .i64 (((i : Nat) : Int)))] ∧ m = size - i ∧ Ext w0 W ∧ w1.heap.size ≤ W.heap.size ∧ Acc encB 5 1 W g_out v_out out ∧ (g_out = 0 ∨ w0.heap.size < g_out) ∧ (out = b ++ (putN n size).take i) ∧ (out.length = b.length + i) ∧ (i ≤ size)) ?_ ?_
  · refine ⟨_, _, ⟨(v1 : Value), (gr1 : Nat), ((b) : List UInt8), (0 : Nat), rfl, rfl, hE1, Nat.le_refl _, h1, (by omega), (by simp), (by simp), (by omega)⟩, ⟨rfl, rfl, rfl, rfl, rfl, trivial⟩⟩
  · rintro _ _ w2 ⟨v_out, g_out, out, i, rfl, rfl, hE2, hs2, ha1, hg2, ho, hol, hil⟩ ih1
    refine .go 2 rfl ?_
    refine .zb (.lt rfl rfl) fun b1 hb1 => ?_
    refine .gi 2 rfl ?_
    cases b1
    case true =>
      replace hb1 := dt hb1
      refine .go 12 rfl ?_
      refine .z (.convI (by kernel_rfl) Tryz.underlying260 rfl) ?_
      refine .go 1 rfl ?_
      refine .z (.subI ((((size : Nat) : Int) - 1)) rfl rfl (by omega)) ?_
      refine .go 1 rfl ?_
      refine .z (.subI (((((size : Nat) : Int) - 1) - (((i : Nat) : Int)))) rfl rfl (by omega)) ?_
      refine .z (.mulI (((8 * (((size - 1) - i)) : Nat) : Int)) rfl rfl (by omega)) ?_
      refine .z (.convN (by kernel_rfl) Tryz.underlying96 rfl (IntWalk.u64_in _ (by omega))) ?_
      refine .z (.shrN (8 * (((size - 1) - i))) rfl rfl (by omega) (by simp only [IntKind.bits]; omega)) ?_
      refine .z (.convB (by kernel_rfl) Tryz.underlying5 rfl) ?_
      refine .ac (.buildSlice [(.int .u8 (((byN (((IntKind.u64.wrap n) / 2 ^ (8 * (((size - 1) - i)))))).toNat : Int)) : Value)] Tryz.underlying120 ti5 rfl rfl rfl (by decide) fun w3 b2 hm2 hb2 hz1 hk1 => ?_)
      have hl1 := ha1.lt
      have f2 := ha1.ext hm2
      have hE3 := hE2.ext hm2
      have hs3 := hm2.size
      have hl2 := Sl.of_blk (enc := encB) hk1 ([(byN (((IntKind.u64.wrap n) / 2 ^ (8 * (((size - 1) - i))))))] : List UInt8) 1 rfl rfl (by unfold maxLen; omega)
      have hl3 := f2.lt
      refine .ac (.append f2 Tryz.underlying120 ti5 rfl encB_len encB_one rfl rfl (hl2) ol ox fun v2 g1 w4 ha2 hm3 hg3 hz2 => ?_)
      have hl4 := f2.lt
      have hE4 := Ext.thenG hE3 hm3 (by omega)
      have hs4 := hm3.size
      refine .go 4 rfl ?_
      refine .z (.addI (((i + 1 : Nat) : Int)) rfl rfl (by omega)) ?_
      refine .gi 2 rfl ?_
      exact (ih1 _ _ _ ⟨(v2 : Value), (g1 : Nat), ((out ++ [(byN (((IntKind.u64.wrap n) / 2 ^ (8 * (((size - 1) - i))))))]) : List UInt8), (i + 1 : Nat), rfl, rfl, hE4, (by omega), ha2, (by omega), (by first | exact putN_take ho (by omega) rfl | (exfalso; omega)), (by first | (simp only [List.length_append, List.length_cons, List.length_nil]; omega) | (exfalso; omega)), (by first | omega | (exfalso; omega))⟩ (by omega)).sub ⟨rfl, rfl, rfl, rfl, rfl, trivial⟩
    replace hb1 := df hb1
    refine .gi 7 rfl ?_
    refine r_ret1 Tryz.func195 rfl rfl ?_
    exact Ret.mk ⟨⟨_, Acc.cast ha1 (by first | (rw [ho, List.take_of_length_le (by rw [putN_len]; omega)]) | (exfalso; omega)), by omega⟩, hE2⟩
theorem q136_1 {p : Prop} (h : p := by first | exact (numV_no (by omega)).1 | exact (numV_no (by omega)).2 | (rw [hn, ← (numV_yes (by omega)).1, show i = size from by omega]; simp) | exact (numV_yes (by omega)).2 | (exfalso; omega)) : p := h
theorem q136_2 {p : Prop} (h : p := by omega) : p := h
set_option maxRecDepth 20000 in
set_option maxHeartbeats 4000000 in
theorem num4_c {w0 : World}  {v_b : Value} {b : List UInt8} (at_ : Int) (size : Nat) (h_b : Sl encB w0 (Iv 0 w0.heap.size) v_b b) (h_at_ : I64 at_) (hbl : b.length ≤ 4000000) (hsz : 1 ≤ size ∧ size ≤ 4) :
    Calls Tryz.prog 136 #[v_b, .int .i64 at_, .int .i64 (((size : Nat) : Int))] w0 (Ret fun rv w1 => ∃ u0 u1, rv = .tuple #[u0, u1] ∧ u0 = .int .i64 (numV b at_ size) ∧ (∃ rb : Bool, rb = (numOk b at_ size) ∧ u1 = .bool rb) ∧ Ext w0 w1) := by
  have hE0 : Ext w0 w0 := Mod.refl _ _
  have hle1 := h_b.le
  refine calls_enter Tryz.func136 rfl Tryz.ntmps136 rfl ?_
  refine .go 9 rfl ?_
  refine .zb (.lt rfl rfl) fun b1 hb1 => ?_
  refine .go 1 rfl ?_
  cases b1
  case true =>
    replace hb1 := dt hb1
    refine .gi 28 rfl ?_
    refine r_ret2 Tryz.func136 rfl rfl rfl ?_
    exact Ret.mk ⟨_, _, rfl, (congrArg (Value.int .i64) q136_1), ⟨_, q136_1, rfl⟩, hE0⟩
  replace hb1 := df hb1
  refine .go 1 rfl ?_
  refine .zb (.gt rfl rfl) fun b2 hb2 => ?_
  refine .go 2 rfl ?_
  cases b2
  case true =>
    replace hb2 := dt hb2
    refine .gi 24 rfl ?_
    refine r_ret2 Tryz.func136 rfl rfl rfl ?_
    exact Ret.mk ⟨_, _, rfl, (congrArg (Value.int .i64) q136_1), ⟨_, q136_1, rfl⟩, hE0⟩
  replace hb2 := df hb2
  refine .go 1 rfl ?_
  refine .zb (.lt rfl rfl) fun b3 hb3 => ?_
  refine .go 2 rfl ?_
  cases b3
  case true =>
    replace hb3 := dt hb3
    refine .gi 20 rfl ?_
    refine r_ret2 Tryz.func136 rfl rfl rfl ?_
    exact Ret.mk ⟨_, _, rfl, (congrArg (Value.int .i64) q136_1), ⟨_, q136_1, rfl⟩, hE0⟩
  replace hb3 := df hb3
  refine .go 2 rfl ?_
  refine .z (.lenSl Tryz.underlying120 (h_b) rfl) ?_
  refine .zb (.gt rfl rfl) fun b4 hb4 => ?_
  refine .go 2 rfl ?_
  cases b4
  case true =>
    replace hb4 := dt hb4
    refine .gi 14 rfl ?_
    refine r_ret2 Tryz.func136 rfl rfl rfl ?_
    exact Ret.mk ⟨_, _, rfl, (congrArg (Value.int .i64) q136_1), ⟨_, q136_1, rfl⟩, hE0⟩
  replace hb4 := df hb4
  refine .go 2 rfl ?_
  refine .z (.lenSl Tryz.underlying120 (h_b) rfl) ?_
  refine .go 1 rfl ?_
  refine .z (.subI ((((b.length : Nat) : Int) - at_)) rfl rfl q136_2) ?_
  refine .zb (.gt rfl rfl) fun b5 hb5 => ?_
  refine .gi 2 rfl ?_
  cases b5
  case true =>
    replace hb5 := dt hb5
    refine .gi 6 rfl ?_
    refine r_ret2 Tryz.func136 rfl rfl rfl ?_
    exact Ret.mk ⟨_, _, rfl, (congrArg (Value.int .i64) q136_1), ⟨_, q136_1, rfl⟩, hE0⟩
  replace hb5 := df hb5
  refine .gi 13 rfl ?_
  refine r_loop (I := fun m E W => ∃ (n : Nat) (i : Nat), E = [(0, v_b), (1, .int .i64 at_), (8, .int .u64 (((n : Nat) : Int))), (34, .int .i64 (((size : Nat) : Int))), (35, .int .i64 (((i : Nat) : Int)))] ∧ m = size - i ∧ Ext w0 W ∧ w0.heap.size ≤ W.heap.size ∧ Sl encB W (Iv 0 w0.heap.size) v_b b ∧ (n = numN ((b.drop at_.toNat).take i)) ∧ (i ≤ size)) ?_ ?_
  · refine ⟨_, _, ⟨(0 : Nat), (0 : Nat), rfl, rfl, hE0, Nat.le_refl _, h_b, (by rfl), q136_2⟩, ⟨rfl, rfl, rfl, rfl, rfl, trivial⟩⟩
  · rintro _ _ w1 ⟨n, i, rfl, rfl, hE1, hs1, f1, hn, hil⟩ ih1
    have hnb := num_small (i := i) (l := b.drop at_.toNat) q136_2
    rw [← hn] at hnb
    refine .go 2 rfl ?_
    refine .zb (.lt rfl rfl) fun b6 hb6 => ?_
    refine .gi 2 rfl ?_
    cases b6
    case true =>
      replace hb6 := dt hb6
      refine .go 11 rfl ?_
      refine .z (.shl8 (a := n) rfl rfl (by omega)) ?_
      refine .go 3 rfl ?_
      refine .z (.addI ((at_ + (((i : Nat) : Int)))) rfl rfl q136_2) ?_
      obtain ⟨x1, b7, o1, hx1, hr1, hl1, hu1, hw1⟩ := Sl.at' (P := Tryz.prog) f1 Tryz.underlying120 ti5 encB_len (k := .i64) (n := (at_ + (((i : Nat) : Int)))) (((at_ + (((i : Nat) : Int)))).toNat) q136_2 ao
      refine .z (.indexAddr rfl rfl hr1) ?_
      refine .z (.lr ti5 hw1) ?_
      have hx1b := x1.toNat_lt
      refine .z (.convN (by kernel_rfl) Tryz.underlying260 rfl (IntWalk.u64_in _ q136_2)) ?_
      refine .z (.orB (a := n) (b := x1.toNat) rfl rfl q136_2 q136_2) ?_
      refine .go 4 rfl ?_
      refine .z (.addI (((i + 1 : Nat) : Int)) rfl rfl q136_2) ?_
      refine .gi 2 rfl ?_
      exact (ih1 _ _ _ ⟨(n * 256 + x1.toNat : Nat), (i + 1 : Nat), rfl, rfl, hE1, q136_2, f1, (by first | refine num_step hn hx1 ?_; omega | (exfalso; omega)), (by first | omega | (exfalso; omega))⟩ q136_2).sub ⟨rfl, rfl, rfl, rfl, rfl, trivial⟩
    replace hb6 := df hb6
    refine .go 5 rfl ?_
    refine .z (.convN (by kernel_rfl) Tryz.underlying3 rfl (IntWalk.i64_in _ q136_2)) ?_
    refine .gi 3 rfl ?_
    refine r_ret2 Tryz.func136 rfl rfl rfl ?_
    exact Ret.mk ⟨_, _, rfl, (congrArg (Value.int .i64) q136_1), ⟨_, q136_1, rfl⟩, hE1⟩
end Go.Proofs
namespace Go.Proofs
open Go.Ik Go.Ml
set_option maxRecDepth 20000 in
set_option maxHeartbeats 4000000 in
theorem dget_c {w0 : World} {bd bm : Nat} {life : Int} {m : List (Int × Nat)} (s : Int) (hs : I64 s) (hr : Row w0 bd 0 [.map (some bm), .int .i64 life]) (hm : MapO intV ptrV w0 bm m) :
    Calls Tryz.prog 60 #[ptr bd 0, .int .i64 s] w0 (Ret fun rv w1 => rv = (match asc m s with | none => .tuple #[.pointer none, .int .i64 4] | some p => .tuple #[ptr p 0, .int .i64 0]) ∧ Ext w0 w1) := by
  have hS0 := St.start0 w0
  refine calls_enter Tryz.func60 rfl Tryz.ntmps60 rfl ?_
  refine .go 10 rfl ?_
  refine .z (.eqNil Tryz.underlying62 rfl rfl) ?_
  refine .go 7 rfl ?_
  refine .z (.fieldAddr fl164_0 rfl) ?_
  have hr1 := hr.sub 0 1 (Nat.le_of_ble_eq_true rfl)
  refine .z (.lr ti162 hr1) ?_
  refine .go 1 rfl ?_
  cases hfi : asc m s with
  | none =>
    refine .z (.lookMiss (key := intV) (val := ptrV) (keyOk_int Tryz.underlying3) Tryz.underlying162 Tryz.zeroValue117 rfl rfl (fun _ e => e ▸ hm) hfi) ?_
    refine .z (.eqNil Tryz.underlying117 rfl rfl) ?_
    refine .gi 8 rfl ?_
    refine r_ret2 Tryz.func60 rfl rfl rfl ?_
    exact Ret.mk ⟨rfl, hS0.mod⟩
  | some p0 =>
    refine .z (.lookHit (key := intV) (val := ptrV) (keyOk_int Tryz.underlying3) Tryz.underlying162 Tryz.zeroValue117 rfl rfl (fun _ e => e ▸ hm) hfi) ?_
    refine .z (.eqNil Tryz.underlying117 rfl rfl) ?_
    refine .go 9 rfl ?_
    refine .z (.fieldAddr fl164_0 rfl) ?_
    have hr2 := hr.sub 0 1 (Nat.le_of_ble_eq_true rfl)
    refine .z (.lr ti162 hr2) ?_
    refine .go 1 rfl ?_
    refine .z (.lookHit (key := intV) (val := ptrV) (keyOk_int Tryz.underlying3) Tryz.underlying162 Tryz.zeroValue117 rfl rfl (fun _ e => e ▸ hm) hfi) ?_
    refine .gi 3 rfl ?_
    refine r_ret2 Tryz.func60 rfl rfl rfl ?_
    exact Ret.mk ⟨rfl, hS0.mod⟩
set_option maxRecDepth 20000 in
set_option maxHeartbeats 4000000 in
theorem dread_c {w0 : World} {F : Nat → Prop} {bd : Nat} {life : Int} {K : List DE} (s : Int) (hs : I64 s) (hA : (dkK (R := fun _ => False) 164 123 5 bd life K).p F w0) (hF : ∀ b, F b → b < w0.heap.size) (hK : DkOk K) :
    Calls Tryz.prog 94 #[ptr bd 0, .int .i64 s] w0 (Ret fun rv w1 => ∃ v, rv = .tuple #[v, .int .i64 (dkErr K s)] ∧ (∃ g, Acc encB 5 1 w1 g v (dkRead K s) ∧ (g = 0 ∨ w0.heap.size < g)) ∧ Ext w0 w1) := by
  have hS0 := St.start0 w0
  obtain ⟨D, bm, hD, hbd, hmp, him⟩ := dkK_in hA
  refine calls_enter Tryz.func94 rfl Tryz.ntmps94 rfl ?_
  refine .go 9 rfl ?_
  cases hg : dkGet K s with
  | none =>
    refine .ac (.callF cl60 rfl (dget_c (w0 := w0) s hs (hbd.row.ext hS0.mod) (hmp.ext hS0.mod)) ?_)
    rintro _ w1 ⟨rfl, hm1⟩
    have hS1 := hS0.ext hm1
    rw [dk_miss hD hg]
    dsimp only
    refine .go 10 rfl ?_
    refine .zb (.ne rfl rfl) fun b1 hb1 => ?_
    obtain rfl : b1 = true := hb1.trans (by rfl)
    refine .gi 8 rfl ?_
    refine r_ret2 Tryz.func94 rfl rfl rfl ?_
    exact Ret.mk ⟨.slice none 0 0, (congrArg (fun z : Int => Value.tuple #[.slice none 0 0, .int .i64 z]) (dk_no hg).1.symm), ⟨0, Acc.cast Acc.nil (dk_no hg).2.1.symm, .inl rfl⟩, hS1.mod⟩
  | some x0 =>
    obtain ⟨k, y, hk, hy, hys, has⟩ := dk_hit hD hg
    refine .ac (.callF cl60 rfl (dget_c (w0 := w0) s hs (hbd.row.ext hS0.mod) (hmp.ext hS0.mod)) ?_)
    rintro _ w1 ⟨rfl, hm1⟩
    have hS1 := hS0.ext hm1
    rw [has]
    dsimp only
    have hyl : 1 ≤ y.good.length ∧ y.good.length ≤ 4000000 ∧ y.now.length = y.good.length := by subst hy; exact hK.2 _ (dkGet_key hg).2
    obtain ⟨vg, vn, hbi, hsg, hsn⟩ := him y (List.mem_of_getElem? hk)
    refine .go 10 rfl ?_
    refine .zb (.ne rfl rfl) fun b1 hb1 => ?_
    obtain rfl : b1 = false := hb1.trans (by rfl)
    refine .go 7 rfl ?_
    refine .z (.fieldAddr fl123_1 rfl) ?_
    have f1 := hbi.row.keep hS1.mod (fun h => h)
    have hr1 := f1.sub 1 1 (Nat.le_of_ble_eq_true rfl)
    refine .z (.lr ti120 hr1) ?_
    have f2 := hS1.out hsn (fun _ _ h => h)
    refine .ac (.callF cl61 rfl (cloneB_c (w0 := w1) (s := y.now)  (f2.mono (fun b hb => ⟨Nat.zero_le _, Nat.lt_of_lt_of_le (hF b hb) hS1.mod.size⟩)) ao) ?_)
    rintro v1 w2 ⟨⟨gr1, h1, hg1⟩, hm2⟩
    have hS3 := (hS1.newAcc hm2 h1 hg1).n1
    clear hg1
    have hle_1 := h1.le
    refine .gi 3 rfl ?_
    refine r_ret2 Tryz.func94 rfl rfl rfl ?_
    obtain ⟨ga, haq, hgq⟩ := hS3.accOut (i := 0) rfl
    exact Ret.mk ⟨_, (congrArg (fun z : Int => Value.tuple #[_, .int .i64 z]) (dk_yes hg).1.symm), ⟨ga, Acc.cast haq (by rw [(dk_yes hg).2.1, ← hy]; rfl), hgq⟩, hS3.mod⟩
set_option maxRecDepth 20000 in
set_option maxHeartbeats 4000000 in
theorem dlife_c {w0 : World} {F : Nat → Prop} {bd : Nat} {life : Int} {K : List DE} (hA : (dkK (R := fun _ => False) 164 123 5 bd life K).p F w0) :
    Calls Tryz.prog 52 #[ptr bd 0] w0 (Ret fun rv w1 => rv = .int .i64 life ∧ Ext w0 w1) := by
  have hS0 := St.start0 w0
  obtain ⟨D, bm, hD, hbd, hmp, him⟩ := dkK_in hA
  refine calls_enter Tryz.func52 rfl Tryz.ntmps52 rfl ?_
  refine .go 8 rfl ?_
  refine .z (.eqNil Tryz.underlying62 rfl rfl) ?_
  refine .go 7 rfl ?_
  refine .z (.fieldAddr fl164_1 rfl) ?_
  have hr1 := hbd.row.sub 1 1 (Nat.le_of_ble_eq_true rfl)
  refine .z (.lr ti3 hr1) ?_
  refine .gi 2 rfl ?_
  refine r_ret1 Tryz.func52 rfl rfl ?_
  exact Ret.mk ⟨rfl, hS0.mod⟩
set_option maxRecDepth 20000 in
set_option maxHeartbeats 4000000 in
theorem dborn_c {w0 : World} {F : Nat → Prop} {bd : Nat} {life : Int} {K : List DE} (hlf : 0 ≤ life ∧ life ≤ 1000000) (hA : (dkK (R := fun _ => False) 164 123 5 bd life K).p F w0) (hF : ∀ b, F b → b < w0.heap.size) :
    Calls Tryz.prog 92 #[ptr bd 0] w0 (Ret fun rv w1 => rv = .int .i64 (life + 1) ∧ Mod F w0 w1 ∧ ∃ F2, (dkK (R := fun _ => False) 164 123 5 bd ((life + 1)) K).p F2 w1 ∧ ∀ b, F2 b → b < w1.heap.size ∧ (F b ∨ w0.heap.size ≤ b)) := by
  have hS00 := St.start1 (R := fun _ => False) hA (fun b hb => ⟨hF b hb, id⟩) (fun _ h => h.elim)
  have hS1 : St (fun _ => False) F w0 w0 [dkK 164 123 5 bd life K] := hS00
  obtain ⟨Fy1, hAy1, hFy1, hky1⟩ := hS1.act (i := 0) rfl
  obtain ⟨D, bm, hD, hbx⟩ := dkK_op hAy1
  have hS2 : St (fun _ => False) F w0 w0 [boxR [bkR bd [.map (some bm), .int .i64 life] 164, mapR intV ptrV bm (D.map fun x => (x.shard, x.ptr)), boxR (D.map (imR 123 5))]] := hky1 _ _ _ (Mod.refl _ _) hbx (fun b hb => ⟨(hFy1 b hb).2, .inl hb⟩)
  clear hky1 hAy1 hbx
  have hS3 := (hS2.un 0 rfl [] (by rfl) (by decide)).n3
  refine calls_enter Tryz.func92 rfl Tryz.ntmps92 rfl ?_
  refine .go 8 rfl ?_
  refine .z (.eqNil Tryz.underlying62 rfl rfl) ?_
  refine .go 7 rfl ?_
  refine .z (.fieldAddr fl164_1 rfl) ?_
  have f1 := hS3.bk (i := 0) rfl
  refine .z (.l1 ti3 f1) ?_
  refine .z (.addI ((life + 1)) rfl rfl (by omega)) ?_
  refine .go 1 rfl ?_
  refine .z (.fieldAddr fl164_1 rfl) ?_
  refine .ac (.store ti3 rfl rfl rfl rfl rfl f1 (Nat.le_of_ble_eq_true rfl) fun w1 hm1 hz1 hk1 => ?_)
  have hS4 := (hS3.bkK (cs' := [.map (some bm), .int .i64 ((life + 1))]) (i := 0) rfl hm1 hk1).n3
  refine .go 5 rfl ?_
  refine .z (.fieldAddr fl164_1 rfl) ?_
  have f2 := hS4.bk (i := 0) rfl
  refine .z (.l1 ti3 f2) ?_
  refine .gi 2 rfl ?_
  refine r_ret1 Tryz.func92 rfl rfl ?_
  have hS5 := (hS4.b3 [] 0 1 2 (by rfl) (by decide)).n1
  have hS6 := (hS5.ty (dkK 164 123 5 bd ((life + 1)) K) 0 rfl (fun F_ h_ => dkK_cl hD h_)).n1
  obtain ⟨hmF, F2r, hAr, hFr⟩ := hS6.fin
  exact Ret.mk ⟨rfl, hmF, F2r, hAr, hFr⟩
end Go.Proofs
namespace Go.Proofs
open Go.Ik Go.Ml
set_option maxRecDepth 20000 in
set_option maxHeartbeats 4000000 in
theorem cmpS_c {w0 : World}  (a : Str) (b : Str)  :
    Calls Tryz.prog 182 #[strV a, strV b] w0 (Ret fun rv w1 => rv = .int .i64 (Lib.compareBytes a b) ∧ Ext w0 w1 ∧ I64 (Lib.compareBytes a b)) := by
  have hE0 : Ext w0 w0 := Mod.refl _ _
  refine calls_enter Tryz.func182 rfl Tryz.ntmps182 rfl ?_
  refine .go 8 rfl ?_
  refine .ac (.callX Tryz.func199 (by kernel_rfl) (by kernel_rfl) (by kernel_rfl) (e := Extern.BytealgCompare.compare) (by kernel_rfl) rfl (Lib.run_compareString _ _ _) ?_)
  refine .gi 2 rfl ?_
  refine r_ret1 Tryz.func182 rfl rfl ?_
  exact Ret.mk ⟨(congrArg (Value.int .i64) (by rfl)), hE0, by exact Ml.cmp_I64 _ _⟩
set_option maxRecDepth 20000 in
set_option maxHeartbeats 4000000 in
theorem scmp_c {w0 : World}  (a : Str) (b : Str)  :
    Calls Tryz.prog 148 #[strV a, strV b] w0 (Ret fun rv w1 => rv = .int .i64 (Lib.compareBytes a b) ∧ Ext w0 w1 ∧ I64 (Lib.compareBytes a b)) := by
  have hE0 : Ext w0 w0 := Mod.refl _ _
  refine calls_enter Tryz.func148 rfl Tryz.ntmps148 rfl ?_
  refine .go 8 rfl ?_
  refine .ac (.callF cl182 rfl (cmpS_c (w0 := w0)  a b ) ?_)
  rintro _ w1 ⟨rfl, hm1, hp1⟩
  have hE1 := hE0.ext hm1
  have hs1 := hm1.size
  refine .gi 2 rfl ?_
  refine r_ret1 Tryz.func148 rfl rfl ?_
  exact Ret.mk ⟨(congrArg (Value.int .i64) (by rfl)), hE1, by exact Ml.cmp_I64 _ _⟩
set_option maxRecDepth 20000 in
set_option maxHeartbeats 4000000 in
theorem tcmp_c {w0 : World}  (a : Str) (b : Str)  :
    Calls Tryz.prog 103 #[strV a, strV b] w0 (Ret fun rv w1 => rv = .int .i64 (Lib.compareBytes a b) ∧ Ext w0 w1 ∧ I64 (Lib.compareBytes a b)) := by
  have hE0 : Ext w0 w0 := Mod.refl _ _
  refine calls_enter Tryz.func103 rfl Tryz.ntmps103 rfl ?_
  refine .go 8 rfl ?_
  refine .ac (.callF cl148 rfl (scmp_c (w0 := w0)  a b ) ?_)
  rintro _ w1 ⟨rfl, hm1, hp1⟩
  have hE1 := hE0.ext hm1
  have hs1 := hm1.size
  refine .gi 2 rfl ?_
  refine r_ret1 Tryz.func103 rfl rfl ?_
  exact Ret.mk ⟨(congrArg (Value.int .i64) (by rfl)), hE1, by exact Ml.cmp_I64 _ _⟩
set_option maxRecDepth 20000 in
set_option maxHeartbeats 4000000 in
theorem tlen_c {w0 : World}  (s : Str) (hs : s.length ≤ 9223372036854775807) :
    Calls Tryz.prog 104 #[strV s] w0 (Ret fun rv w1 => rv = .int .i64 (Ml.lenT s) ∧ Ext w0 w1 ∧ I64 (Ml.lenT s)) := by
  have hE0 : Ext w0 w0 := Mod.refl _ _
  refine calls_enter Tryz.func104 rfl Tryz.ntmps104 rfl ?_
  refine .go 12 rfl ?_
  refine .ac (.rangeS Tryz.underlying9 rfl fun w1 b1 hm1 hb1 hz1 hk1 => ?_)
  have hE1 := hE0.ext hm1
  have hs1 := hm1.size
  refine .gi 2 rfl ?_
  refine r_loop (I := fun m E W => ∃ (k : Nat) (p : Nat), E = [(3, .int .i64 (((k : Nat) : Int))), (7, ptr b1 0)] ∧ m = s.length - p ∧ Ext w0 W ∧ w1.heap.size ≤ W.heap.size ∧ It W b1 s p ∧ (Ml.LenInv s p k)) ?_ ?_
  · refine ⟨_, _, ⟨(0 : Nat), (0 : Nat), rfl, rfl, hE1, Nat.le_refl _, hk1, (by exact Ml.LenInv.start s)⟩, ⟨rfl, rfl, trivial⟩⟩
  · rintro _ _ w2 ⟨k, p, rfl, rfl, hE2, hs2, f1, hi⟩ ih1
    refine .go 2 rfl ?_
    refine .ac (.nextS rfl f1 ?_ ?_)
    · intro he1
      refine .gi 10 rfl ?_
      refine r_ret1 Tryz.func104 rfl rfl ?_
      exact Ret.mk ⟨(congrArg (Value.int .i64) (by first | exact hi.fin (by assumption) | (exfalso; omega))), hE2, by exact Ml.lenT_I64 hs⟩
    · intro w3 he1 hm2 hz2 hk2
      have hE3 := Ext.thenG hE2 hm2 (by omega)
      have hs3 := hm2.size
      have hk := hi.lt he1
      refine .go 15 rfl ?_
      refine .zb (.eq rfl rfl) fun b2 hb2 => ?_
      refine .gi 1 rfl ?_
      cases b2
      case true =>
        replace hb2 := eq_of_beq hb2.symm
        refine .gi 5 rfl ?_
        refine r_ret1 Tryz.func104 rfl rfl ?_
        exact Ret.mk ⟨(congrArg (Value.int .i64) (by first | exact hi.odd (by assumption) (by assumption) | (exfalso; omega))), hE3, by exact Ml.lenT_I64 hs⟩
      replace hb2 := ne_of_beq_false hb2.symm
      refine .go 4 rfl ?_
      refine .z (.addI (((k + 1 : Nat) : Int)) rfl rfl (by omega)) ?_
      refine .gi 3 rfl ?_
      exact (ih1 _ _ _ ⟨(k + 1 : Nat), ((p + (dec (s.drop p)).2) : Nat), rfl, rfl, hE3, (by omega), hk2, (by first | exact hi.next (by assumption) (by assumption) | (exfalso; omega))⟩ (by have := Ml.dec_lt (by assumption : List.drop p s ≠ []); omega)).sub ⟨rfl, rfl, trivial⟩
set_option maxRecDepth 20000 in
set_option maxHeartbeats 4000000 in
theorem tword_c {w0 : World}  (s : Str) (hs : s.length ≤ 9223372036854775807) :
    Calls Tryz.prog 102 #[strV s] w0 (Ret fun rv w1 => (∃ rb : Bool, rb = (Ml.word s) ∧ rv = .bool rb) ∧ Ext w0 w1) := by
  have hE0 : Ext w0 w0 := Mod.refl _ _
  refine calls_enter Tryz.func102 rfl Tryz.ntmps102 rfl ?_
  refine .go 7 rfl ?_
  refine .ac (.callF cl104 rfl (tlen_c (w0 := w0)  s ao) ?_)
  rintro _ w1 ⟨rfl, hm1, hp1⟩
  have hE1 := hE0.ext hm1
  have hs1 := hm1.size
  refine .go 5 rfl ?_
  refine .zb (.ge rfl rfl) fun b1 hb1 => ?_
  refine .go 1 rfl ?_
  cases b1
  case true =>
    replace hb1 := dt hb1
    refine .go 1 rfl ?_
    refine .zb (.le rfl rfl) fun b2 hb2 => ?_
    refine .gi 3 rfl ?_
    refine r_ret1 Tryz.func102 rfl rfl ?_
    exact Ret.mk ⟨⟨_, (by first | simp only [Ml.word, *]; simp | (exfalso; omega)), rfl⟩, hE1⟩
  replace hb1 := df hb1
  refine .gi 5 rfl ?_
  refine r_ret1 Tryz.func102 rfl rfl ?_
  exact Ret.mk ⟨⟨_, (by first | simp only [Ml.word, *]; simp | (exfalso; omega)), rfl⟩, hE1⟩
set_option maxRecDepth 20000 in
set_option maxHeartbeats 4000000 in
theorem tasked_c {w0 : World}  (s : Str) (hs : s.length ≤ 9223372036854775807) :
    Calls Tryz.prog 126 #[strV s] w0 (Ret fun rv w1 => (∃ rb : Bool, rb = (Ml.asked s) ∧ rv = .bool rb) ∧ Ext w0 w1) := by
  have hE0 : Ext w0 w0 := Mod.refl _ _
  refine calls_enter Tryz.func126 rfl Tryz.ntmps126 rfl ?_
  refine .go 7 rfl ?_
  refine .ac (.callF cl104 rfl (tlen_c (w0 := w0)  s ao) ?_)
  rintro _ w1 ⟨rfl, hm1, hp1⟩
  have hE1 := hE0.ext hm1
  have hs1 := hm1.size
  refine .go 5 rfl ?_
  refine .zb (.ge rfl rfl) fun b1 hb1 => ?_
  refine .go 1 rfl ?_
  cases b1
  case true =>
    replace hb1 := dt hb1
    refine .go 1 rfl ?_
    refine .zb (.le rfl rfl) fun b2 hb2 => ?_
    refine .gi 3 rfl ?_
    refine r_ret1 Tryz.func126 rfl rfl ?_
    exact Ret.mk ⟨⟨_, (by first | simp only [Ml.asked, *]; simp | (exfalso; omega)), rfl⟩, hE1⟩
  replace hb1 := df hb1
  refine .gi 5 rfl ?_
  refine r_ret1 Tryz.func126 rfl rfl ?_
  exact Ret.mk ⟨⟨_, (by first | simp only [Ml.asked, *]; simp | (exfalso; omega)), rfl⟩, hE1⟩
theorem q127_1 {p : Prop} (h : p := by assumption) : p := h
set_option maxRecDepth 20000 in
set_option maxHeartbeats 4000000 in
theorem trunes_c {w0 : World}  (s : Str) (hs : s.length ≤ 1000000) :
    Calls Tryz.prog 127 #[strV s] w0 (Ret fun rv w1 => ∃ u0 u1, rv = .tuple #[u0, u1] ∧ Sl encRn w1 (Iv w0.heap.size w1.heap.size) u0 (Ml.runesM s) ∧ (∃ rb : Bool, rb = (Ml.fineT s) ∧ u1 = .bool rb) ∧ Ext w0 w1) := by
  have hE0 : Ext w0 w0 := Mod.refl _ _
  refine calls_enter Tryz.func127 rfl Tryz.ntmps127 rfl ?_
  refine .go 13 rfl ?_
  refine .ac (.rangeS Tryz.underlying9 rfl fun w1 b1 hm1 hb1 hz1 hk1 => ?_)
  have hE1 := hE0.ext hm1
  have hs1 := hm1.size
  refine .gi 2 rfl ?_
  refine r_loop (I := fun m E W => ∃ (v_l : Value) (g_l : Nat) (l : List Int) (p : Nat), E = [(4, v_l), (8, ptr b1 0)] ∧ m = s.length - p ∧ Ext w0 W ∧ w1.heap.size ≤ W.heap.size ∧ Acc encRn 21 1 W g_l v_l l ∧ (g_l = 0 ∨ w0.heap.size < g_l) ∧ It W b1 s p ∧ b1 + 1 ≠ g_l ∧ (Ml.RunInv s p l)) ?_ ?_
  · refine ⟨_, _, ⟨(.slice none 0 0 : Value), (0 : Nat), ([] : List Int), (0 : Nat), rfl, rfl, hE1, Nat.le_refl _, Acc.nil, (by omega), hk1, (by omega), (by exact Ml.RunInv.start s)⟩, ⟨rfl, rfl, trivial⟩⟩
  · rintro _ _ w2 ⟨v_l, g_l, l, p, rfl, rfl, hE2, hs2, ha1, hg1, f1, hn1, hr⟩ ih1
    have hll := hr.len
    have hle := hr.pos
    refine .go 2 rfl ?_
    refine .ac (.nextS rfl f1 ?_ ?_)
    · intro he1
      refine .gi 11 rfl ?_
      refine r_ret2 Tryz.func127 rfl rfl rfl ?_
      exact Ret.mk ⟨_, _, rfl, (Sl.cast (ha1.fresh (by omega)) (by first | (with_reducible exact Ml.runesM_no (hr.odd q127_1 q127_1)) | (with_reducible exact hr.odd q127_1 q127_1) | (with_reducible exact (hr.done q127_1).1.trans (Ml.runesM_yes (hr.done q127_1).2)) | (with_reducible exact (hr.done q127_1).2) | (exfalso; omega))), ⟨_, (by first | (with_reducible exact Ml.runesM_no (hr.odd q127_1 q127_1)) | (with_reducible exact hr.odd q127_1 q127_1) | (with_reducible exact (hr.done q127_1).1.trans (Ml.runesM_yes (hr.done q127_1).2)) | (with_reducible exact (hr.done q127_1).2) | (exfalso; omega)), rfl⟩, hE2⟩
    · intro w3 he1 hm2 hz2 hk2
      have hl1 := ha1.lt
      have f2 := ha1.keepG hm2 (by omega)
      have hE3 := Ext.thenG hE2 hm2 (by omega)
      have hs3 := hm2.size
      refine .go 15 rfl ?_
      refine .zb (.eq rfl rfl) fun b2 hb2 => ?_
      refine .gi 1 rfl ?_
      cases b2
      case true =>
        replace hb2 := eq_of_beq hb2.symm
        refine .gi 6 rfl ?_
        refine r_ret2 Tryz.func127 rfl rfl rfl ?_
        exact Ret.mk ⟨_, _, rfl, (Sl.cast Sl.nil (by first | (with_reducible exact Ml.runesM_no (hr.odd q127_1 q127_1)) | (with_reducible exact hr.odd q127_1 q127_1) | (with_reducible exact (hr.done q127_1).1.trans (Ml.runesM_yes (hr.done q127_1).2)) | (with_reducible exact (hr.done q127_1).2) | (exfalso; omega))), ⟨_, (by first | (with_reducible exact Ml.runesM_no (hr.odd q127_1 q127_1)) | (with_reducible exact hr.odd q127_1 q127_1) | (with_reducible exact (hr.done q127_1).1.trans (Ml.runesM_yes (hr.done q127_1).2)) | (with_reducible exact (hr.done q127_1).2) | (exfalso; omega)), rfl⟩, hE3⟩
      replace hb2 := ne_of_beq_false hb2.symm
      refine .go 5 rfl ?_
      refine .ac (.buildSlice [(.int .i32 (((dec (s.drop p)).1 : Int)) : Value)] Tryz.underlying179 ti21 rfl rfl rfl (by decide) fun w4 b3 hm3 hb3 hz3 hk3 => ?_)
      have hl2 := f2.lt
      have f3 := f2.ext hm3
      have f4 := hk2.ext hm3
      have hE4 := hE3.ext hm3
      have hs4 := hm3.size
      have hl3 := Sl.of_blk (enc := encRn) hk3 ([((dec (s.drop p)).1 : Int)] : List Int) 1 rfl rfl (by unfold maxLen; omega)
      have hl4 := f3.lt
      refine .ac (.append f3 Tryz.underlying179 ti21 rfl encRn_len encRn_one rfl rfl (hl3) ol ox fun v1 g1 w5 ha2 hm4 hg2 hz4 => ?_)
      have hl5 := f3.lt
      have f5 := f4.keepG hm4 (by omega)
      have hE5 := Ext.thenG hE4 hm4 (by omega)
      have hs5 := hm4.size
      refine .gi 3 rfl ?_
      exact (ih1 _ _ _ ⟨(v1 : Value), (g1 : Nat), ((l ++ [((dec (s.drop p)).1 : Int)]) : List Int), ((p + (dec (s.drop p)).2) : Nat), rfl, rfl, hE5, (by omega), ha2, (by omega), f5, (by omega), (by first | exact hr.step q127_1 q127_1 | (exfalso; omega))⟩ (by have := Ml.dec_lt (by assumption : List.drop p s ≠ []); omega)).sub ⟨rfl, rfl, trivial⟩
theorem q54_1 {p : Prop} (h : p := by first | exact Ml.goodL_full (by omega) | exact Ml.goodL_word (by omega) hx1 (by assumption) | exact Ml.goodL_sort' (by omega) ha hj hx1 hx2 (by omega) | exact Ml.goodL_ok (by omega) ha hr (by omega) | (exfalso; omega)) : p := h
theorem q54_2 {p : Prop} (h : p := by omega) : p := h
set_option maxRecDepth 20000 in
set_option maxHeartbeats 4000000 in
theorem lgood_c {w0 : World}  {v_words : Value} {words : List Str} (h_words : Sl encS w0 (Iv 0 w0.heap.size) v_words words) (hok : Ml.LOk words) :
    Calls Tryz.prog 54 #[v_words] w0 (Ret fun rv w1 => rv = .int .i64 (Ml.goodL words) ∧ Ext w0 w1) := by
  have hE0 : Ext w0 w0 := Mod.refl _ _
  have hle1 := h_words.le
  refine calls_enter Tryz.func54 rfl Tryz.ntmps54 rfl ?_
  refine .go 8 rfl ?_
  refine .z (.lenSl Tryz.underlying23 (h_words) rfl) ?_
  refine .zb (.gt rfl rfl) fun b1 hb1 => ?_
  refine .gi 1 rfl ?_
  cases b1
  case true =>
    replace hb1 := dt hb1
    refine .gi 5 rfl ?_
    refine r_ret1 Tryz.func54 rfl rfl ?_
    exact Ret.mk ⟨(congrArg (Value.int .i64) q54_1), hE0⟩
  replace hb1 := df hb1
  refine .go 6 rfl ?_
  refine .z (.lenSl Tryz.underlying23 (h_words) rfl) ?_
  refine .gi 3 rfl ?_
  refine r_loop (I := fun m E W => ∃ (k : Nat), E = [(0, v_words), (9, v_words), (10, .int .i64 (((words.length : Nat) : Int))), (11, .int .i64 (((k : Nat) : Int)))] ∧ m = words.length - k ∧ Ext w0 W ∧ w0.heap.size ≤ W.heap.size ∧ Sl encS W (Iv 0 w0.heap.size) v_words words ∧ ((words.take k).all Ml.word = true)) ?_ ?_
  · refine ⟨_, _, ⟨(0 : Nat), rfl, rfl, hE0, Nat.le_refl _, h_words, (by rfl)⟩, ⟨rfl, rfl, rfl, rfl, trivial⟩⟩
  · rintro _ _ w1 ⟨k, rfl, rfl, hE1, hs1, f1, hi⟩ ih1
    refine .go 2 rfl ?_
    refine .zb (.lt rfl rfl) fun b2 hb2 => ?_
    refine .gi 2 rfl ?_
    cases b2
    case true =>
      replace hb2 := dt hb2
      obtain ⟨x1, b3, o1, hx1, hr1, hl1, hu1, hw1⟩ := Sl.at' (P := Tryz.prog) f1 Tryz.underlying23 ti9 encS_len (k := .i64) (n := ((k : Nat) : Int)) (k) q54_2 ao
      refine .go 6 rfl ?_
      refine .z (.indexAddr rfl rfl hr1) ?_
      refine .z (.lr ti9 hw1) ?_
      refine .go 5 rfl ?_
      refine .ac (.callF cl102 rfl (tword_c (w0 := w1)  x1 (by exact hok.at (by assumption))) ?_)
      rintro _ w2 ⟨⟨b4, hb3, rfl⟩, hm1⟩
      have f2 := f1.ext hm1
      have hE2 := hE1.ext hm1
      have hs2 := hm1.size
      cases b4
      case true =>
        replace hb3 := hb3.symm
        refine .z (.not rfl) ?_
        refine .go 5 rfl ?_
        refine .z (.addI (((k + 1 : Nat) : Int)) rfl rfl q54_2) ?_
        refine .gi 2 rfl ?_
        exact (ih1 _ _ _ ⟨(k + 1 : Nat), rfl, rfl, hE2, q54_2, f2, (by first | exact Ml.all_take_succ hi (by assumption) (by assumption) | (exfalso; omega))⟩ q54_2).sub ⟨rfl, rfl, rfl, rfl, trivial⟩
      replace hb3 := hb3.symm
      refine .z (.not rfl) ?_
      refine .gi 6 rfl ?_
      refine r_ret1 Tryz.func54 rfl rfl ?_
      exact Ret.mk ⟨(congrArg (Value.int .i64) q54_1), hE2⟩
    replace hb2 := df hb2
    refine .gi 8 rfl ?_
    refine r_loop (I := fun m E W => ∃ (j : Nat), E = [(0, v_words), (5, .int .i64 (((j : Nat) : Int)))] ∧ m = words.length - j ∧ Ext w0 W ∧ w1.heap.size ≤ W.heap.size ∧ Sl encS W (Iv 0 w0.heap.size) v_words words ∧ (1 ≤ j) ∧ (Ml.rising (words.take j) = true)) ?_ ?_
    · refine ⟨_, _, ⟨(1 : Nat), rfl, rfl, hE1, Nat.le_refl _, f1, q54_2, (by exact Ml.rising_one _)⟩, ⟨rfl, rfl, trivial⟩⟩
    · rintro _ _ w2 ⟨j, rfl, rfl, hE2, hs2, f2, hj, hr⟩ ih2
      have ha := Ml.all_of_take hi (by omega)
      refine .go 5 rfl ?_
      refine .z (.lenSl Tryz.underlying23 (f2) rfl) ?_
      refine .zb (.lt rfl rfl) fun b3 hb3 => ?_
      refine .gi 1 rfl ?_
      cases b3
      case true =>
        replace hb3 := dt hb3
        refine .gi 5 rfl ?_
        refine r_draw1 (fun i => Nat.beq i 9) 11 (fun w' => Mod (Mg 0) w2 w') mixed (by kernel_rfl) fun w3 hm1 => ?_
        have f3 := f2.ext hm1
        have hE3 := hE2.ext hm1
        have hs3 := hm1.size
        have hCw3 : Mod (Mg 0) w2 w3 := Mod.ofExt hm1
        refine ⟨hCw3, ?_⟩
        rw [show List.range' 0 (Array.size _) = [0, 1, 2, 3, 4, 5, 6, 7, 8, 9, 10] from rfl]
        refine .gd 2 rfl ?_
        refine .z rfl (.subI ((((j : Nat) : Int) - 1)) rfl rfl q54_2) ?_
        obtain ⟨x1, b4, o1, hx1, hr1, hl1, hu1, hw1⟩ := Sl.at' (P := Tryz.prog) f2 Tryz.underlying23 ti9 encS_len (k := .i64) (n := (((j : Nat) : Int) - 1)) ((j - 1)) q54_2 ao
        refine .z rfl (.indexAddr rfl rfl hr1) ?_
        refine .z rfl (.load1 ti9 rfl (fun _ hc => hw1.keepG hc q54_2)) ?_
        obtain ⟨x2, b5, o2, hx2, hr2, hl2, hu2, hw2⟩ := Sl.at' (P := Tryz.prog) f2 Tryz.underlying23 ti9 encS_len (k := .i64) (n := ((j : Nat) : Int)) (j) q54_2 ao
        refine .gd 2 rfl ?_
        refine .z rfl (.indexAddr rfl rfl hr2) ?_
        refine .z rfl (.load1 ti9 rfl (fun _ hc => hw2.keepG hc q54_2)) ?_
        refine .ac rfl (.callF cl103 rfl (tcmp_c (w0 := w3)  x1 x2 ) ?_)
        rintro _ w4 ⟨rfl, hm2, hp1⟩
        have f4 := f3.ext hm2
        have hE4 := hE3.ext hm2
        have hs4 := hm2.size
        have hCw4 := hCw3.ext hm2
        refine ⟨.inr hCw4, ?_⟩
        refine .zb rfl (.ge rfl rfl) fun b6 hb4 => ?_
        refine .nil ?_
        cases b6
        case true =>
          replace hb4 := dt hb4
          refine .gi 5 rfl ?_
          refine r_ret1 Tryz.func54 rfl rfl ?_
          exact Ret.mk ⟨(congrArg (Value.int .i64) q54_1), hE4⟩
        replace hb4 := df hb4
        refine .go 5 rfl ?_
        refine .z (.addI (((j + 1 : Nat) : Int)) rfl rfl q54_2) ?_
        refine .gi 2 rfl ?_
        exact (ih2 _ _ _ ⟨(j + 1 : Nat), rfl, rfl, hE4, q54_2, f4, (by first | omega | (exfalso; omega)), (by first | exact Ml.rising_step hr hj (by assumption) (by assumption) q54_2 | (exfalso; omega))⟩ q54_2).sub ⟨rfl, rfl, trivial⟩
      replace hb3 := df hb3
      refine .gi 6 rfl ?_
      refine r_ret1 Tryz.func54 rfl rfl ?_
      exact Ret.mk ⟨(congrArg (Value.int .i64) q54_1), hE2⟩
end Go.Proofs
namespace Go.Proofs
open Go.Ik Go.Ml
set_option maxRecDepth 20000 in
set_option maxHeartbeats 4000000 in
theorem isnan_c {w0 : World}  (x : Int)  :
    Calls Tryz.prog 170 #[.int .i64 x] w0 (Ret fun rv w1 => (∃ rb : Bool, rb = false ∧ rv = .bool rb) ∧ Ext w0 w1) := by
  have hE0 : Ext w0 w0 := Mod.refl _ _
  refine calls_enter Tryz.func170 rfl Tryz.ntmps170 rfl ?_
  refine .go 8 rfl ?_
  refine .zb (.ne rfl rfl) fun b1 hb1 => ?_
  refine .gi 2 rfl ?_
  refine r_ret1 Tryz.func170 rfl rfl ?_
  exact Ret.mk ⟨⟨_, (by first | simpa using hb1 | (exfalso; omega)), rfl⟩, hE0⟩
theorem q134_1 {p : Prop} (h : p := by first | (unfold Ml.cmpI; rw [if_pos (by omega)]) | (unfold Ml.cmpI; rw [if_neg (by omega), if_pos (by omega)]) | (unfold Ml.cmpI; rw [if_neg (by omega), if_neg (by omega)]) | (exfalso; omega)) : p := h
set_option maxRecDepth 20000 in
set_option maxHeartbeats 4000000 in
theorem cmpc_c {w0 : World}  (x : Int) (y : Int)  :
    Calls Tryz.prog 134 #[.int .i64 x, .int .i64 y] w0 (Ret fun rv w1 => rv = .int .i64 (Ml.cmpI x y) ∧ Ext w0 w1) := by
  have hE0 : Ext w0 w0 := Mod.refl _ _
  refine calls_enter Tryz.func134 rfl Tryz.ntmps134 rfl ?_
  refine .go 7 rfl ?_
  refine .ac (.callF cl170 rfl (isnan_c (w0 := w0)  (x) ) ?_)
  rintro _ w1 ⟨⟨_, rfl, rfl⟩, hm1⟩
  have hE1 := hE0.ext hm1
  have hs1 := hm1.size
  refine .go 5 rfl ?_
  refine .ac (.callF cl170 rfl (isnan_c (w0 := w1)  (y) ) ?_)
  rintro _ w2 ⟨⟨_, rfl, rfl⟩, hm2⟩
  have hE2 := hE1.ext hm2
  have hs2 := hm2.size
  refine .go 21 rfl ?_
  refine .zb (.lt rfl rfl) fun b1 hb1 => ?_
  refine .gi 1 rfl ?_
  cases b1
  case true =>
    replace hb1 := dt hb1
    refine .gi 5 rfl ?_
    refine r_ret1 Tryz.func134 rfl rfl ?_
    exact Ret.mk ⟨(congrArg (Value.int .i64) q134_1), hE2⟩
  replace hb1 := df hb1
  refine .go 7 rfl ?_
  refine .zb (.gt rfl rfl) fun b2 hb2 => ?_
  refine .gi 1 rfl ?_
  cases b2
  case true =>
    replace hb2 := dt hb2
    refine .gi 5 rfl ?_
    refine r_ret1 Tryz.func134 rfl rfl ?_
    exact Ret.mk ⟨(congrArg (Value.int .i64) q134_1), hE2⟩
  replace hb2 := df hb2
  refine .gi 6 rfl ?_
  refine r_ret1 Tryz.func134 rfl rfl ?_
  exact Ret.mk ⟨(congrArg (Value.int .i64) q134_1), hE2⟩
set_option maxRecDepth 20000 in
set_option maxHeartbeats 4000000 in
theorem cmpor_c {w0 : World}  {v_vals : Value} {vals : List Int} (h_vals : Sl Ik.encI w0 (Iv 0 w0.heap.size) v_vals vals) :
    Calls Tryz.prog 133 #[v_vals] w0 (Ret fun rv w1 => rv = .int .i64 (Ml.orI vals) ∧ Ext w0 w1) := by
  have hE0 : Ext w0 w0 := Mod.refl _ _
  have hle1 := h_vals.le
  refine calls_enter Tryz.func133 rfl Tryz.ntmps133 rfl ?_
  refine .go 12 rfl ?_
  refine .z (.lenSl Tryz.underlying57 (h_vals) rfl) ?_
  refine .gi 3 rfl ?_
  refine r_loop (I := fun m E W => ∃ (k : Nat), E = [(3, .int .i64 0), (6, v_vals), (7, .int .i64 (((vals.length : Nat) : Int))), (8, .int .i64 (((k : Nat) : Int)))] ∧ m = vals.length - k ∧ Ext w0 W ∧ w0.heap.size ≤ W.heap.size ∧ Sl Ik.encI W (Iv 0 w0.heap.size) v_vals vals ∧ (Ml.orI vals = Ml.orI (vals.drop k))) ?_ ?_
  · refine ⟨_, _, ⟨(0 : Nat), rfl, rfl, hE0, Nat.le_refl _, h_vals, (by rfl)⟩, ⟨rfl, rfl, rfl, rfl, trivial⟩⟩
  · rintro _ _ w1 ⟨k, rfl, rfl, hE1, hs1, f1, hi⟩ ih1
    refine .go 2 rfl ?_
    refine .zb (.lt rfl rfl) fun b1 hb1 => ?_
    refine .gi 2 rfl ?_
    cases b1
    case true =>
      replace hb1 := dt hb1
      obtain ⟨x1, b2, o1, hx1, hr1, hl1, hu1, hw1⟩ := Sl.at' (P := Tryz.prog) f1 Tryz.underlying57 ti3 Ik.encI_len (k := .i64) (n := ((k : Nat) : Int)) (k) (by omega) ao
      refine .go 6 rfl ?_
      refine .z (.indexAddr rfl rfl hr1) ?_
      refine .z (.lr ti3 hw1) ?_
      refine .go 6 rfl ?_
      refine .zb (.ne rfl rfl) fun b3 hb2 => ?_
      refine .gi 1 rfl ?_
      cases b3
      case true =>
        replace hb2 := bne_iff_ne.1 hb2.symm
        refine .gi 6 rfl ?_
        refine r_ret1 Tryz.func133 rfl rfl ?_
        exact Ret.mk ⟨(congrArg (Value.int .i64) (by first | exact Ml.orI_found hi hx1 hb2 | exact Ml.orI_end hi (by omega) | (exfalso; omega))), hE1⟩
      replace hb2 := bne_eq_false_iff_eq.1 hb2.symm
      refine .go 4 rfl ?_
      refine .z (.addI (((k + 1 : Nat) : Int)) rfl rfl (by omega)) ?_
      refine .gi 2 rfl ?_
      exact (ih1 _ _ _ ⟨(k + 1 : Nat), rfl, rfl, hE1, (by omega), f1, (by first | exact Ml.orI_drop hi hx1 (by simpa using hb2) | (exfalso; omega))⟩ (by omega)).sub ⟨rfl, rfl, rfl, rfl, trivial⟩
    replace hb1 := df hb1
    refine .gi 7 rfl ?_
    refine r_ret1 Tryz.func133 rfl rfl ?_
    exact Ret.mk ⟨(congrArg (Value.int .i64) (by first | exact Ml.orI_found hi hx1 hb2 | exact Ml.orI_end hi (by omega) | (exfalso; omega))), hE1⟩
set_option maxRecDepth 20000 in
set_option maxHeartbeats 4000000 in
theorem kcmp_c {w0 : World}  {a : Key} {b : Key}  :
    Calls Tryz.prog 149 #[.agg #[.int .i64 a.len, strV a.text], .agg #[.int .i64 b.len, strV b.text]] w0 (Ret fun rv w1 => rv = .int .i64 (Ml.keyCmp a b) ∧ Ext w0 w1) := by
  have hE0 : Ext w0 w0 := Mod.refl _ _
  refine calls_enter Tryz.func149 rfl Tryz.ntmps149 rfl ?_
  refine .go 2 rfl ?_
  refine .ac (.box [.int .i64 a.len, strV a.text] rfl rfl fun w1 b1 hm1 hb1 hz1 hk1 => ?_)
  have hE1 := hE0.ext hm1
  have hs1 := hm1.size
  refine .ac (.box [.int .i64 b.len, strV b.text] rfl rfl fun w2 b2 hm2 hb2 hz2 hk2 => ?_)
  have f1 := hk1.ext hm2
  have hE2 := hE1.ext hm2
  have hs2 := hm2.size
  refine .gi 3 rfl ?_
  refine r_draw1 (fun i => Nat.beq i 4 || Nat.beq i 9 || Nat.beq i 10 || Nat.beq i 11) 13 (fun w' => Mod (Mg 0) w2 w') mixed (by kernel_rfl) fun w3 hm3 => ?_
  have hE3 := hE2.ext hm3
  have hs3 := hm3.size
  have hCw3 : Mod (Mg 0) w2 w3 := Mod.ofExt hm3
  refine ⟨hCw3, ?_⟩
  rw [show List.range' 0 (Array.size _) = [0, 1, 2, 3, 4, 5, 6, 7, 8, 9, 10, 11, 12] from rfl]
  refine .z rfl (.fieldAddr fl110_0 rfl) ?_
  refine .z rfl (.load1 ti3 rfl (fun _ hc => (f1.cell 0 _ rfl).keepG hc (by omega))) ?_
  refine .z rfl (.fieldAddr fl110_0 rfl) ?_
  refine .z rfl (.load1 ti3 rfl (fun _ hc => (hk2.cell 0 _ rfl).keepG hc (by omega))) ?_
  refine .ac rfl (.callF cl134 rfl (cmpc_c (w0 := w3)  (a.len) (b.len) ) ?_)
  rintro _ w4 ⟨rfl, hm4⟩
  have hE4 := hE3.ext hm4
  have hs4 := hm4.size
  have hCw4 := hCw3.ext hm4
  refine ⟨.inr hCw4, ?_⟩
  refine .z rfl (.fieldAddr fl110_1 rfl) ?_
  refine .z rfl (.load1 ti9 rfl (fun _ hc => (f1.cell 1 _ rfl).keepG hc (by omega))) ?_
  refine .z rfl (.fieldAddr fl110_1 rfl) ?_
  refine .z rfl (.load1 ti9 rfl (fun _ hc => (hk2.cell 1 _ rfl).keepG hc (by omega))) ?_
  refine .ac rfl (.callF cl103 rfl (tcmp_c (w0 := w4)  a.text b.text ) ?_)
  rintro _ w5 ⟨rfl, hm5, hp1⟩
  have hE5 := hE4.ext hm5
  have hs5 := hm5.size
  have hCw5 := hCw4.ext hm5
  refine ⟨.inr hCw5, ?_⟩
  refine .ac rfl (.buildSlice [(.int .i64 ((Ml.cmpI a.len b.len)) : Value), (.int .i64 ((Lib.compareBytes a.text b.text)) : Value)] Tryz.underlying57 ti3 rfl rfl rfl (by decide) fun w6 b3 hm6 hb3 hz3 hk3 => ?_)
  have hE6 := hE5.ext hm6
  have hs6 := hm6.size
  have hCw6 := hCw5.ext hm6
  refine ⟨.inr hCw6, ?_⟩
  have hl1 := Sl.of_blk (enc := Ik.encI) hk3 ([(Ml.cmpI a.len b.len), (Lib.compareBytes a.text b.text)] : List Int) 2 rfl rfl (by unfold maxLen; omega)
  refine .ac rfl (.callF cl133 rfl (cmpor_c (w0 := w6) (vals := [(Ml.cmpI a.len b.len), (Lib.compareBytes a.text b.text)])  ((hl1).iv (Nat.zero_le _) (by omega))) ?_)
  rintro _ w7 ⟨rfl, hm7⟩
  have hE7 := hE6.ext hm7
  have hs7 := hm7.size
  have hCw7 := hCw6.ext hm7
  refine ⟨.inr hCw7, ?_⟩
  refine .gd 1 rfl ?_
  refine .nil ?_
  refine r_ret1 Tryz.func149 rfl rfl ?_
  exact Ret.mk ⟨(congrArg (Value.int .i64) (by rfl)), hE7⟩
set_option maxRecDepth 20000 in
set_option maxHeartbeats 4000000 in
theorem kless_c {w0 : World}  {a : Key} {b : Key}  :
    Calls Tryz.prog 105 #[.agg #[.int .i64 a.len, strV a.text], .agg #[.int .i64 b.len, strV b.text]] w0 (Ret fun rv w1 => (∃ rb : Bool, rb = (Ml.keyLess a b) ∧ rv = .bool rb) ∧ Ext w0 w1) := by
  have hE0 : Ext w0 w0 := Mod.refl _ _
  refine calls_enter Tryz.func105 rfl Tryz.ntmps105 rfl ?_
  refine .go 2 rfl ?_
  refine .ac (.box [.int .i64 a.len, strV a.text] rfl rfl fun w1 b1 hm1 hb1 hz1 hk1 => ?_)
  have hE1 := hE0.ext hm1
  have hs1 := hm1.size
  refine .ac (.box [.int .i64 b.len, strV b.text] rfl rfl fun w2 b2 hm2 hb2 hz2 hk2 => ?_)
  have f1 := hk1.ext hm2
  have hE2 := hE1.ext hm2
  have hs2 := hm2.size
  refine .go 4 rfl ?_
  refine .z (.loadN ti110 rfl (fun _ e => e ▸ f1.row) rfl) ?_
  refine .z (.loadN ti110 rfl (fun _ e => e ▸ hk2.row) rfl) ?_
  refine .ac (.callF cl149 rfl (kcmp_c (w0 := w2) (a := a) (b := b)  ) ?_)
  rintro _ w3 ⟨rfl, hm3⟩
  have hE3 := hE2.ext hm3
  have hs3 := hm3.size
  refine .zb (.lt rfl rfl) fun b3 hb3 => ?_
  refine .gi 2 rfl ?_
  refine r_ret1 Tryz.func105 rfl rfl ?_
  exact Ret.mk ⟨⟨_, (by first | simp only [Ml.keyLess, *] | (exfalso; omega)), rfl⟩, hE3⟩
theorem q55_1 {p : Prop} (h : p := by first | exact Ml.goodC_full (by omega) | exact Ml.goodC_key (by omega) hx1 (by simp only [Ml.keyOk]; simp; omega) | exact Ml.goodC_sort (by omega) ha hj hx1 hx2 (by assumption) | exact Ml.goodC_ok (by omega) ha hr (by omega) | (exfalso; omega)) : p := h
theorem q55_2 {p : Prop} (h : p := by omega) : p := h
theorem q55_3 {p : Prop} (h : p := by simp only [Ml.keyOk]; simp; omega) : p := h
set_option maxRecDepth 20000 in
set_option maxHeartbeats 4000000 in
theorem pgood_c {w0 : World}  {v_cuts : Value} {cuts : List Key} (h_cuts : Sl encKey w0 (Iv 0 w0.heap.size) v_cuts cuts) (hk : ∀ k ∈ cuts, k.text.length ≤ 9223372036854775807) :
    Calls Tryz.prog 55 #[v_cuts] w0 (Ret fun rv w1 => rv = .int .i64 (Ml.goodC cuts) ∧ Ext w0 w1) := by
  have hE0 : Ext w0 w0 := Mod.refl _ _
  have hle1 := h_cuts.le
  refine calls_enter Tryz.func55 rfl Tryz.ntmps55 rfl ?_
  refine .go 8 rfl ?_
  refine .z (.lenSl Tryz.underlying24 (h_cuts) rfl) ?_
  refine .zb (.gt rfl rfl) fun b1 hb1 => ?_
  refine .gi 1 rfl ?_
  cases b1
  case true =>
    replace hb1 := dt hb1
    refine .gi 5 rfl ?_
    refine r_ret1 Tryz.func55 rfl rfl ?_
    exact Ret.mk ⟨(congrArg (Value.int .i64) q55_1), hE0⟩
  replace hb1 := df hb1
  refine .go 6 rfl ?_
  refine .z (.lenSl Tryz.underlying24 (h_cuts) rfl) ?_
  refine .gi 3 rfl ?_
  refine r_loop (I := fun m E W => ∃ (k : Nat), E = [(0, v_cuts), (10, v_cuts), (11, .int .i64 (((cuts.length : Nat) : Int))), (12, .int .i64 (((k : Nat) : Int)))] ∧ m = cuts.length - k ∧ Ext w0 W ∧ w0.heap.size ≤ W.heap.size ∧ Sl encKey W (Iv 0 w0.heap.size) v_cuts cuts ∧ ((cuts.take k).all Ml.keyOk = true)) ?_ ?_
  · refine ⟨_, _, ⟨(0 : Nat), rfl, rfl, hE0, Nat.le_refl _, h_cuts, (by rfl)⟩, ⟨rfl, rfl, rfl, rfl, trivial⟩⟩
  · rintro _ _ w1 ⟨k, rfl, rfl, hE1, hs1, f1, hi⟩ ih1
    refine .go 2 rfl ?_
    refine .zb (.lt rfl rfl) fun b2 hb2 => ?_
    refine .gi 2 rfl ?_
    cases b2
    case true =>
      replace hb2 := dt hb2
      obtain ⟨x1, b3, o1, hx1, hr1, hl1, hu1, hw1⟩ := Sl.at' (P := Tryz.prog) f1 Tryz.underlying24 ti110 encKey_len (k := .i64) (n := ((k : Nat) : Int)) (k) q55_2 ao
      refine .go 6 rfl ?_
      refine .z (.indexAddr rfl rfl hr1) ?_
      refine .z (.loadN ti110 rfl (fun _ e => e ▸ hw1) rfl) ?_
      refine .ac (.alloc ti110 fun w2 b4 hm1 hb3 hz1 hk1 => ?_)
      have f2 := f1.ext hm1
      have hE2 := hE1.ext hm1
      have hs2 := hm1.size
      refine .ac (.store ti110 rfl rfl rfl rfl rfl hk1 (Nat.le_of_ble_eq_true rfl) fun w3 hm2 hz2 hk2 => ?_)
      replace hk2 : Bk w3 b4 [.int .i64 x1.len, strV x1.text] 110 := hk2
      have f3 := f2.keepG hm2 (by omega)
      have hE3 := Ext.thenG hE2 hm2 (by omega)
      have hs3 := hm2.size
      refine .go 3 rfl ?_
      refine .z (.fieldAddr fl110_1 rfl) ?_
      refine .z (.l1 ti9 hk2) ?_
      refine .ac (.callF cl104 rfl (tlen_c (w0 := w3)  x1.text (by exact hk _ (List.mem_of_getElem? (by assumption)))) ?_)
      rintro _ w4 ⟨rfl, hm3, hp1⟩
      have f4 := f3.ext hm3
      have f5 := hk2.ext hm3
      have hE4 := hE3.ext hm3
      have hs4 := hm3.size
      refine .go 4 rfl ?_
      refine .z (.fieldAddr fl110_0 rfl) ?_
      refine .z (.l1 ti3 f5) ?_
      refine .zb (.lt rfl rfl) fun b5 hb4 => ?_
      refine .go 1 rfl ?_
      cases b5
      case true =>
        replace hb4 := dt hb4
        refine .gi 18 rfl ?_
        refine r_ret1 Tryz.func55 rfl rfl ?_
        exact Ret.mk ⟨(congrArg (Value.int .i64) q55_1), hE4⟩
      replace hb4 := df hb4
      refine .z (.fieldAddr fl110_0 rfl) ?_
      refine .z (.l1 ti3 f5) ?_
      refine .zb (.gt rfl rfl) fun b6 hb5 => ?_
      refine .go 2 rfl ?_
      cases b6
      case true =>
        replace hb5 := dt hb5
        refine .gi 13 rfl ?_
        refine r_ret1 Tryz.func55 rfl rfl ?_
        exact Ret.mk ⟨(congrArg (Value.int .i64) q55_1), hE4⟩
      replace hb5 := df hb5
      refine .go 1 rfl ?_
      refine .zb (.lt rfl rfl) fun b7 hb6 => ?_
      refine .go 2 rfl ?_
      cases b7
      case true =>
        replace hb6 := dt hb6
        refine .gi 9 rfl ?_
        refine r_ret1 Tryz.func55 rfl rfl ?_
        exact Ret.mk ⟨(congrArg (Value.int .i64) q55_1), hE4⟩
      replace hb6 := df hb6
      refine .go 1 rfl ?_
      refine .zb (.gt rfl rfl) fun b8 hb7 => ?_
      refine .gi 2 rfl ?_
      cases b8
      case true =>
        replace hb7 := dt hb7
        refine .gi 5 rfl ?_
        refine r_ret1 Tryz.func55 rfl rfl ?_
        exact Ret.mk ⟨(congrArg (Value.int .i64) q55_1), hE4⟩
      replace hb7 := df hb7
      refine .go 4 rfl ?_
      refine .z (.addI (((k + 1 : Nat) : Int)) rfl rfl q55_2) ?_
      refine .gi 2 rfl ?_
      exact (ih1 _ _ _ ⟨(k + 1 : Nat), rfl, rfl, hE4, q55_2, f4, (by first | exact Ml.all_take_succ hi hx1 q55_3 | (exfalso; omega))⟩ q55_2).sub ⟨rfl, rfl, rfl, rfl, trivial⟩
    replace hb2 := df hb2
    refine .gi 8 rfl ?_
    refine r_loop (I := fun m E W => ∃ (j : Nat), E = [(0, v_cuts), (6, .int .i64 (((j : Nat) : Int)))] ∧ m = cuts.length - j ∧ Ext w0 W ∧ w1.heap.size ≤ W.heap.size ∧ Sl encKey W (Iv 0 w0.heap.size) v_cuts cuts ∧ (1 ≤ j) ∧ (Ml.keysRise (cuts.take j) = true)) ?_ ?_
    · refine ⟨_, _, ⟨(1 : Nat), rfl, rfl, hE1, Nat.le_refl _, f1, q55_2, (by exact Ml.keysRise_one _)⟩, ⟨rfl, rfl, trivial⟩⟩
    · rintro _ _ w2 ⟨j, rfl, rfl, hE2, hs2, f2, hj, hr⟩ ih2
      have ha := Ml.all_of_take hi (by omega)
      refine .go 5 rfl ?_
      refine .z (.lenSl Tryz.underlying24 (f2) rfl) ?_
      refine .zb (.lt rfl rfl) fun b3 hb3 => ?_
      refine .gi 1 rfl ?_
      cases b3
      case true =>
        replace hb3 := dt hb3
        refine .gi 5 rfl ?_
        refine r_draw1 (fun i => Nat.beq i 9) 11 (fun w' => Mod (Mg 0) w2 w') mixed (by kernel_rfl) fun w3 hm1 => ?_
        have f3 := f2.ext hm1
        have hE3 := hE2.ext hm1
        have hs3 := hm1.size
        have hCw3 : Mod (Mg 0) w2 w3 := Mod.ofExt hm1
        refine ⟨hCw3, ?_⟩
        rw [show List.range' 0 (Array.size _) = [0, 1, 2, 3, 4, 5, 6, 7, 8, 9, 10] from rfl]
        refine .gd 2 rfl ?_
        refine .z rfl (.subI ((((j : Nat) : Int) - 1)) rfl rfl q55_2) ?_
        obtain ⟨x1, b4, o1, hx1, hr1, hl1, hu1, hw1⟩ := Sl.at' (P := Tryz.prog) f2 Tryz.underlying24 ti110 encKey_len (k := .i64) (n := (((j : Nat) : Int) - 1)) ((j - 1)) q55_2 ao
        refine .z rfl (.indexAddr rfl rfl hr1) ?_
        refine .z rfl (.loadN ti110 rfl (fun _ hc => hw1.keepG hc q55_2) rfl) ?_
        obtain ⟨x2, b5, o2, hx2, hr2, hl2, hu2, hw2⟩ := Sl.at' (P := Tryz.prog) f2 Tryz.underlying24 ti110 encKey_len (k := .i64) (n := ((j : Nat) : Int)) (j) q55_2 ao
        refine .gd 2 rfl ?_
        refine .z rfl (.indexAddr rfl rfl hr2) ?_
        refine .z rfl (.loadN ti110 rfl (fun _ hc => hw2.keepG hc q55_2) rfl) ?_
        refine .ac rfl (.callF cl105 rfl (kless_c (w0 := w3) (a := x1) (b := x2)  ) ?_)
        rintro _ w4 ⟨⟨b6, hb4, rfl⟩, hm2⟩
        have f4 := f3.ext hm2
        have hE4 := hE3.ext hm2
        have hs4 := hm2.size
        have hCw4 := hCw3.ext hm2
        refine ⟨.inr hCw4, ?_⟩
        cases b6
        case true =>
          replace hb4 := hb4.symm
          refine .z rfl (.not rfl) ?_
          refine .nil ?_
          refine .go 5 rfl ?_
          refine .z (.addI (((j + 1 : Nat) : Int)) rfl rfl q55_2) ?_
          refine .gi 2 rfl ?_
          exact (ih2 _ _ _ ⟨(j + 1 : Nat), rfl, rfl, hE4, q55_2, f4, (by first | omega | (exfalso; omega)), (by first | exact Ml.keysRise_step hr hj hx1 hx2 (by assumption) | (exfalso; omega))⟩ q55_2).sub ⟨rfl, rfl, trivial⟩
        replace hb4 := hb4.symm
        refine .z rfl (.not rfl) ?_
        refine .nil ?_
        refine .gi 5 rfl ?_
        refine r_ret1 Tryz.func55 rfl rfl ?_
        exact Ret.mk ⟨(congrArg (Value.int .i64) q55_1), hE4⟩
      replace hb3 := df hb3
      refine .gi 6 rfl ?_
      refine r_ret1 Tryz.func55 rfl rfl ?_
      exact Ret.mk ⟨(congrArg (Value.int .i64) q55_1), hE2⟩
set_option maxRecDepth 20000 in
set_option maxHeartbeats 4000000 in
theorem pbelow_c {w0 : World}  {v_cuts : Value} {cuts : List Key} {k : Key} (h_cuts : Sl encKey w0 (Iv 0 w0.heap.size) v_cuts cuts) :
    Calls Tryz.prog 166 #[v_cuts, .agg #[.int .i64 k.len, strV k.text], .func (.func 105) #[] #[]] w0 (Ret fun rv w1 => rv = .int .i64 (((Ml.belowN cuts k : Nat) : Int)) ∧ Ext w0 w1) := by
  have hE0 : Ext w0 w0 := Mod.refl _ _
  have hle1 := h_cuts.le
  refine calls_enter Tryz.func166 rfl Tryz.ntmps166 rfl ?_
  refine .go 2 rfl ?_
  refine .ac (.box [.int .i64 k.len, strV k.text] rfl rfl fun w1 b1 hm1 hb1 hz1 hk1 => ?_)
  have f1 := h_cuts.ext hm1
  have hE1 := hE0.ext hm1
  have hs1 := hm1.size
  refine .go 10 rfl ?_
  refine .z (.lenSl Tryz.underlying24 (f1) rfl) ?_
  refine .gi 3 rfl ?_
  refine r_loop (I := fun m E W => ∃ (n : Nat) (j : Nat), E = [(2, .func (.func 105) #[] #[]), (4, ptr b1 0), (7, .int .i64 (((n : Nat) : Int))), (10, v_cuts), (11, .int .i64 (((cuts.length : Nat) : Int))), (12, .int .i64 (((j : Nat) : Int)))] ∧ m = cuts.length - j ∧ Ext w0 W ∧ w1.heap.size ≤ W.heap.size ∧ Bk W b1 [.int .i64 k.len, strV k.text] 110 ∧ Sl encKey W (Iv 0 w0.heap.size) v_cuts cuts ∧ (n = ((cuts.take j).filter fun c => !Ml.keyLess k c).length) ∧ (n ≤ j)) ?_ ?_
  · refine ⟨_, _, ⟨(0 : Nat), (0 : Nat), rfl, rfl, hE1, Nat.le_refl _, hk1, f1, (by rfl), (by omega)⟩, ⟨rfl, rfl, rfl, rfl, rfl, rfl, trivial⟩⟩
  · rintro _ _ w2 ⟨n, j, rfl, rfl, hE2, hs2, f2, f3, hi, hn⟩ ih1
    refine .go 2 rfl ?_
    refine .zb (.lt rfl rfl) fun b2 hb2 => ?_
    refine .gi 2 rfl ?_
    cases b2
    case true =>
      replace hb2 := dt hb2
      obtain ⟨x1, b3, o1, hx1, hr1, hl1, hu1, hw1⟩ := Sl.at' (P := Tryz.prog) f3 Tryz.underlying24 ti110 encKey_len (k := .i64) (n := ((j : Nat) : Int)) (j) (by omega) ao
      refine .go 6 rfl ?_
      refine .z (.indexAddr rfl rfl hr1) ?_
      refine .z (.loadN ti110 rfl (fun _ e => e ▸ hw1) rfl) ?_
      refine .ac (.alloc ti110 fun w3 b4 hm2 hb3 hz2 hk2 => ?_)
      have f4 := f2.ext hm2
      have f5 := f3.ext hm2
      have hE3 := hE2.ext hm2
      have hs3 := hm2.size
      refine .ac (.store ti110 rfl rfl rfl rfl rfl hk2 (Nat.le_of_ble_eq_true rfl) fun w4 hm3 hz3 hk3 => ?_)
      replace hk3 : Bk w4 b4 [.int .i64 x1.len, strV x1.text] 110 := hk3
      have f6 := f4.keepG hm3 (by omega)
      have f7 := f5.keepG hm3 (by omega)
      have hE4 := Ext.thenG hE3 hm3 (by omega)
      have hs4 := hm3.size
      refine .go 4 rfl ?_
      refine .z (.loadN ti110 rfl (fun _ e => e ▸ f6.row) rfl) ?_
      refine .z (.loadN ti110 rfl (fun _ e => e ▸ hk3.row) rfl) ?_
      refine .ac (.call (first := []) (cap := []) cl105 rfl rfl (kless_c (w0 := w4) (a := k) (b := x1)  ) ?_)
      rintro _ w5 ⟨⟨b5, hb4, rfl⟩, hm4⟩
      have f8 := f6.ext hm4
      have f9 := f7.ext hm4
      have hE5 := hE4.ext hm4
      have hs5 := hm4.size
      cases b5
      case true =>
        replace hb4 := hb4.symm
        refine .z (.not rfl) ?_
        refine .go 5 rfl ?_
        refine .z (.addI (((j + 1 : Nat) : Int)) rfl rfl (by omega)) ?_
        refine .gi 2 rfl ?_
        exact (ih1 _ _ _ ⟨(n : Nat), (j + 1 : Nat), rfl, rfl, hE5, (by omega), f8, f9, (by first | (rw [Ml.filter_take_yes hx1 (by simp [*]), List.length_append, ← hi]; rfl) | (rw [Ml.filter_take_no hx1 (by simp [*])]; exact hi) | (exfalso; omega)), (by first | omega | (exfalso; omega))⟩ (by omega)).sub ⟨rfl, rfl, rfl, rfl, rfl, rfl, trivial⟩
      replace hb4 := hb4.symm
      refine .z (.not rfl) ?_
      refine .go 4 rfl ?_
      refine .z (.addI (((n + 1 : Nat) : Int)) rfl rfl (by omega)) ?_
      refine .go 4 rfl ?_
      refine .z (.addI (((j + 1 : Nat) : Int)) rfl rfl (by omega)) ?_
      refine .gi 2 rfl ?_
      exact (ih1 _ _ _ ⟨(n + 1 : Nat), (j + 1 : Nat), rfl, rfl, hE5, (by omega), f8, f9, (by first | (rw [Ml.filter_take_yes hx1 (by simp [*]), List.length_append, ← hi]; rfl) | (rw [Ml.filter_take_no hx1 (by simp [*])]; exact hi) | (exfalso; omega)), (by first | omega | (exfalso; omega))⟩ (by omega)).sub ⟨rfl, rfl, rfl, rfl, rfl, rfl, trivial⟩
    replace hb2 := df hb2
    refine .gi 7 rfl ?_
    refine r_ret1 Tryz.func166 rfl rfl ?_
    exact Ret.mk ⟨(congrArg (Value.int .i64) (by first | rw [hi, Ml.filter_take_all (by omega)]; rfl | (exfalso; omega))), hE2⟩
set_option maxRecDepth 20000 in
set_option maxHeartbeats 4000000 in
theorem pof_c {w0 : World}  {v_cuts : Value} {cuts : List Key} (w : Str) (h_cuts : Sl encKey w0 (Iv 0 w0.heap.size) v_cuts cuts) (hs_w : w.length ≤ 9223372036854775807) :
    Calls Tryz.prog 124 #[v_cuts, strV w] w0 (Ret fun rv w1 => rv = .int .i64 (Ml.ofM cuts w) ∧ Ext w0 w1) := by
  have hE0 : Ext w0 w0 := Mod.refl _ _
  have hle1 := h_cuts.le
  refine calls_enter Tryz.func124 rfl Tryz.ntmps124 rfl ?_
  refine .go 8 rfl ?_
  refine .ac (.callF cl102 rfl (tword_c (w0 := w0)  w (by exact hs_w)) ?_)
  rintro _ w1 ⟨⟨b1, hb1, rfl⟩, hm1⟩
  have f1 := h_cuts.ext hm1
  have hE1 := hE0.ext hm1
  have hs1 := hm1.size
  cases b1
  case true =>
    replace hb1 := hb1.symm
    refine .z (.not rfl) ?_
    refine .go 7 rfl ?_
    refine .ac (.callF cl104 rfl (tlen_c (w0 := w1)  w (by exact hs_w)) ?_)
    rintro _ w2 ⟨rfl, hm2, hp1⟩
    have f2 := f1.ext hm2
    have hE2 := hE1.ext hm2
    have hs2 := hm2.size
    refine .go 1 rfl ?_
    refine .z (.build (vs := #[(0, (.int .i64 ((Ml.lenT w)) : Value)), (1, strV w)]) (v := .agg #[.int .i64 ((Ml.lenT w)), strV w]) rfl (fun _ => by kernel_rfl)) ?_
    refine .ac (.callF cl166 rfl (pbelow_c (w0 := w2) (cuts := cuts) (k := (Key.mk ((Ml.lenT w)) w))  ((f2).iv (Nat.zero_le _) (by omega))) ?_)
    rintro _ w3 ⟨rfl, hm3⟩
    have hE3 := hE2.ext hm3
    have hs3 := hm3.size
    refine .gi 2 rfl ?_
    refine r_ret1 Tryz.func124 rfl rfl ?_
    exact Ret.mk ⟨(congrArg (Value.int .i64) (by first | simp only [Ml.ofM, *]; rfl | (exfalso; omega))), hE3⟩
  replace hb1 := hb1.symm
  refine .z (.not rfl) ?_
  refine .gi 6 rfl ?_
  refine r_ret1 Tryz.func124 rfl rfl ?_
  exact Ret.mk ⟨(congrArg (Value.int .i64) (by first | simp only [Ml.ofM, *]; rfl | (exfalso; omega))), hE1⟩
theorem q79_1 {p : Prop} (h : p := by first | (rw [Ml.filter_take_yes hx1 (Ml.slP_yes hb2 hb3), hi]) | (rw [Ml.filter_take_no hx1 (Ml.slP_no2 hb3)]; exact hi) | (rw [Ml.filter_take_no hx1 (Ml.slP_no1 hb2)]; exact hi) | (exfalso; omega)) : p := h
set_option maxRecDepth 20000 in
set_option maxHeartbeats 4000000 in
theorem pslice_c {w0 : World}  {v_cuts : Value} {cuts : List Key} {v_words : Value} {words : List Str} (shard : Int) (h_cuts : Sl encKey w0 (Iv 0 w0.heap.size) v_cuts cuts) (h_words : Sl encS w0 (Iv 0 w0.heap.size) v_words words) (h_shard : I64 shard) (hok : Ml.LOk words) (hlen : words.length ≤ 1000000) :
    Calls Tryz.prog 79 #[v_cuts, v_words, .int .i64 shard] w0 (Ret fun rv w1 => (∃ gr, Acc encS 9 1 w1 gr rv (Ml.sliceM cuts words shard) ∧ (gr = 0 ∨ w0.heap.size < gr)) ∧ Ext w0 w1) := by
  have hE0 : Ext w0 w0 := Mod.refl _ _
  have hle1 := h_cuts.le
  have hle2 := h_words.le
  refine calls_enter Tryz.func79 rfl Tryz.ntmps79 rfl ?_
  refine .go 12 rfl ?_
  refine .z (.lenSl Tryz.underlying23 (h_words) rfl) ?_
  refine .gi 3 rfl ?_
  refine r_loop (I := fun m E W => ∃ (v_l : Value) (g_l : Nat) (l : List Str) (k : Nat), E = [(0, v_cuts), (2, .int .i64 shard), (7, v_l), (11, v_words), (12, .int .i64 (((words.length : Nat) : Int))), (13, .int .i64 (((k : Nat) : Int)))] ∧ m = words.length - k ∧ Ext w0 W ∧ w0.heap.size ≤ W.heap.size ∧ Acc encS 9 1 W g_l v_l l ∧ (g_l = 0 ∨ w0.heap.size < g_l) ∧ Sl encKey W (Iv 0 w0.heap.size) v_cuts cuts ∧ Sl encS W (Iv 0 w0.heap.size) v_words words ∧ (l = (words.take k).filter (Ml.slP cuts shard)) ∧ (l.length ≤ k)) ?_ ?_
  · refine ⟨_, _, ⟨(.slice none 0 0 : Value), (0 : Nat), ([] : List Str), (0 : Nat), rfl, rfl, hE0, Nat.le_refl _, Acc.nil, (by omega), h_cuts, h_words, (by rfl), (by exact Nat.zero_le _)⟩, ⟨rfl, rfl, rfl, rfl, rfl, rfl, trivial⟩⟩
  · rintro _ _ w1 ⟨v_l, g_l, l, k, rfl, rfl, hE1, hs1, ha1, hg1, f1, f2, hi, hn⟩ ih1
    refine .go 2 rfl ?_
    refine .zb (.lt rfl rfl) fun b1 hb1 => ?_
    refine .gi 2 rfl ?_
    cases b1
    case true =>
      replace hb1 := dt hb1
      obtain ⟨x1, b2, o1, hx1, hr1, hl1, hu1, hw1⟩ := Sl.at' (P := Tryz.prog) f2 Tryz.underlying23 ti9 encS_len (k := .i64) (n := ((k : Nat) : Int)) (k) (by omega) ao
      refine .go 6 rfl ?_
      refine .z (.indexAddr rfl rfl hr1) ?_
      refine .z (.lr ti9 hw1) ?_
      refine .go 6 rfl ?_
      refine .ac (.callF cl124 rfl (pof_c (w0 := w1) (cuts := cuts) x1 ((f1).iv (Nat.zero_le _) (by omega)) (by exact hok.at (by assumption))) ?_)
      rintro _ w2 ⟨rfl, hm1⟩
      have hl2 := ha1.lt
      have f3 := ha1.ext hm1
      have f4 := f1.ext hm1
      have f5 := f2.ext hm1
      have hE2 := hE1.ext hm1
      have hs2 := hm1.size
      refine .go 5 rfl ?_
      refine .zb (.ge rfl rfl) fun b3 hb2 => ?_
      refine .go 1 rfl ?_
      cases b3
      case true =>
        replace hb2 := dt hb2
        refine .go 2 rfl ?_
        refine .zb (.eq rfl rfl) fun b4 hb3 => ?_
        refine .gi 2 rfl ?_
        cases b4
        case true =>
          replace hb3 := eq_of_beq hb3.symm
          refine .go 4 rfl ?_
          refine .ac (.buildSlice [strV x1] Tryz.underlying23 ti9 rfl rfl rfl (by decide) fun w3 b5 hm2 hb4 hz1 hk1 => ?_)
          have hl3 := f3.lt
          have f6 := f3.ext hm2
          have f7 := f4.ext hm2
          have f8 := f5.ext hm2
          have hE3 := hE2.ext hm2
          have hs3 := hm2.size
          have hl4 := Sl.of_blk (enc := encS) hk1 ([x1] : List Str) 1 rfl rfl (by unfold maxLen; omega)
          have hl5 := f6.lt
          refine .ac (.append f6 Tryz.underlying23 ti9 rfl encS_len encS_one rfl rfl (hl4) ol ox fun v1 g1 w4 ha2 hm3 hg2 hz2 => ?_)
          have hl6 := f6.lt
          have f9 := f7.keepG hm3 (by omega)
          have f10 := f8.keepG hm3 (by omega)
          have hE4 := Ext.thenG hE3 hm3 (by omega)
          have hs4 := hm3.size
          refine .go 4 rfl ?_
          refine .z (.addI (((k + 1 : Nat) : Int)) rfl rfl (by omega)) ?_
          refine .gi 2 rfl ?_
          exact (ih1 _ _ _ ⟨(v1 : Value), (g1 : Nat), ((l ++ [x1]) : List Str), (k + 1 : Nat), rfl, rfl, hE4, (by omega), ha2, (by omega), f9, f10, q79_1, (by first | omega | (simp only [List.length_append, List.length_cons, List.length_nil]; omega) | (exfalso; omega))⟩ (by omega)).sub ⟨rfl, rfl, rfl, rfl, rfl, rfl, trivial⟩
        replace hb3 := ne_of_beq_false hb3.symm
        refine .go 4 rfl ?_
        refine .z (.addI (((k + 1 : Nat) : Int)) rfl rfl (by omega)) ?_
        refine .gi 2 rfl ?_
        exact (ih1 _ _ _ ⟨(v_l : Value), (g_l : Nat), (l : List Str), (k + 1 : Nat), rfl, rfl, hE2, (by omega), f3, (by omega), f4, f5, q79_1, (by first | omega | (simp only [List.length_append, List.length_cons, List.length_nil]; omega) | (exfalso; omega))⟩ (by omega)).sub ⟨rfl, rfl, rfl, rfl, rfl, rfl, trivial⟩
      replace hb2 := df hb2
      refine .go 9 rfl ?_
      refine .z (.addI (((k + 1 : Nat) : Int)) rfl rfl (by omega)) ?_
      refine .gi 2 rfl ?_
      exact (ih1 _ _ _ ⟨(v_l : Value), (g_l : Nat), (l : List Str), (k + 1 : Nat), rfl, rfl, hE2, (by omega), f3, (by omega), f4, f5, q79_1, (by first | omega | (simp only [List.length_append, List.length_cons, List.length_nil]; omega) | (exfalso; omega))⟩ (by omega)).sub ⟨rfl, rfl, rfl, rfl, rfl, rfl, trivial⟩
    replace hb1 := df hb1
    refine .gi 7 rfl ?_
    refine r_ret1 Tryz.func79 rfl rfl ?_
    exact Ret.mk ⟨⟨_, Acc.cast ha1 (by first | rw [hi, Ml.filter_take_all (by omega)]; rfl | (exfalso; omega)), by omega⟩, hE1⟩
set_option maxRecDepth 20000 in
set_option maxHeartbeats 4000000 in
theorem within_c {w0 : World}  (x : Int) (least : Int) (most : Int) (h_x : I64 x) (h_least : I64 least) (h_most : I64 most) :
    Calls Tryz.prog 56 #[.int .i64 x, .int .i64 least, .int .i64 most] w0 (Ret fun rv w1 => (∃ rb : Bool, rb = (Ml.within x least most) ∧ rv = .bool rb) ∧ Ext w0 w1) := by
  have hE0 : Ext w0 w0 := Mod.refl _ _
  refine calls_enter Tryz.func56 rfl Tryz.ntmps56 rfl ?_
  refine .go 8 rfl ?_
  refine .zb (.ge rfl rfl) fun b1 hb1 => ?_
  refine .go 1 rfl ?_
  cases b1
  case true =>
    replace hb1 := dt hb1
    refine .go 2 rfl ?_
    refine .zb (.le rfl rfl) fun b2 hb2 => ?_
    refine .gi 3 rfl ?_
    refine r_ret1 Tryz.func56 rfl rfl ?_
    exact Ret.mk ⟨⟨_, (by first | simp only [Ml.within, *]; simp | (exfalso; omega)), rfl⟩, hE0⟩
  replace hb1 := df hb1
  refine .gi 6 rfl ?_
  refine r_ret1 Tryz.func56 rfl rfl ?_
  exact Ret.mk ⟨⟨_, (by first | simp only [Ml.within, *]; simp | (exfalso; omega)), rfl⟩, hE0⟩
theorem q23_1 {p : Prop} (h : p := by simp only [Ml.timesM]; simp only [*, Bool.and_true, Bool.and_false, Bool.true_and, Bool.false_and]) : p := h
theorem q23_2 {p : Prop} (h : p := by simp only [Ml.sizesM]; simp only [*, Bool.and_true, Bool.and_false, Bool.true_and, Bool.false_and]) : p := h
theorem q23_3 {p : Prop} (h : p := by first | simp [Ml.may, *] | (exfalso; omega)) : p := h
theorem q23_4 {p : Prop} (h : p := by simp only [Ml.nodesM]; simp only [*, Bool.and_true, Bool.and_false, Bool.true_and, Bool.false_and]) : p := h
set_option maxRecDepth 20000 in
set_option maxHeartbeats 4000000 in
theorem may_c {w0 : World}  {c : Cfg} {v_c_words : Value} {v_c_cuts : Value} (h_c_words : Sl encS w0 (Iv 0 w0.heap.size) v_c_words c.words) (h_c_cuts : Sl encKey w0 (Iv 0 w0.heap.size) v_c_cuts c.cuts) (h_c : Cfg.Ok c) :
    Calls Tryz.prog 23 #[.agg #[v_c_words, v_c_cuts, .int .i64 c.workers, .int .i64 c.copies, .int .i64 c.slots, .int .i64 c.batch, .int .i64 c.lease, .int .i64 c.hedge, .int .i64 c.first, .int .i64 c.cap, .int .i64 c.jitter, .int .i64 c.net]] w0 (Ret fun rv w1 => (∃ rb : Bool, rb = (Ml.may c) ∧ rv = .bool rb) ∧ Ext w0 w1) := by
  have hE0 : Ext w0 w0 := Mod.refl _ _
  have hle1 := h_c_words.le
  have hle2 := h_c_cuts.le
  have hc1 := h_c.workers
  have hc2 := h_c.copies
  have hc3 := h_c.slots
  have hc4 := h_c.batch
  have hc5 := h_c.lease
  have hc6 := h_c.hedge
  have hc7 := h_c.first
  have hc8 := h_c.cap
  have hc9 := h_c.jitter
  have hc10 := h_c.net
  refine calls_enter Tryz.func23 rfl Tryz.ntmps23 rfl ?_
  refine .go 2 rfl ?_
  refine .ac (.box [v_c_words, v_c_cuts, .int .i64 c.workers, .int .i64 c.copies, .int .i64 c.slots, .int .i64 c.batch, .int .i64 c.lease, .int .i64 c.hedge, .int .i64 c.first, .int .i64 c.cap, .int .i64 c.jitter, .int .i64 c.net] rfl rfl fun w1 b1 hm1 hb1 hz1 hk1 => ?_)
  have f1 := h_c_words.ext hm1
  have f2 := h_c_cuts.ext hm1
  have hE1 := hE0.ext hm1
  have hs1 := hm1.size
  refine .go 5 rfl ?_
  refine .z (.fieldAddr fl26_0 rfl) ?_
  refine .z (.l1 ti23 hk1) ?_
  refine .ac (.callF cl54 rfl (lgood_c (w0 := w1) (words := c.words)  ((f1).iv (Nat.zero_le _) (by omega)) (by exact h_c.words)) ?_)
  rintro _ w2 ⟨rfl, hm2⟩
  have f4 := f2.ext hm2
  have f5 := hk1.ext hm2
  have hE2 := hE1.ext hm2
  have hs2 := hm2.size
  have := Ml.goodL_range c.words
  refine .zb (.ne rfl rfl) fun b2 hb2 => ?_
  refine .go 1 rfl ?_
  cases b2
  case true =>
    replace hb2 := bne_iff_ne.1 hb2.symm
    refine .gi 11 rfl ?_
    refine r_ret1 Tryz.func23 rfl rfl ?_
    exact Ret.mk ⟨⟨_, q23_3, rfl⟩, hE2⟩
  replace hb2 := bne_eq_false_iff_eq.1 hb2.symm
  refine .z (.fieldAddr fl26_1 rfl) ?_
  refine .z (.l1 ti24 f5) ?_
  refine .ac (.callF cl55 rfl (pgood_c (w0 := w2) (cuts := c.cuts)  ((f4).iv (Nat.zero_le _) (by omega)) (by exact fun k hk => (h_c.cuts k hk).2)) ?_)
  rintro _ w3 ⟨rfl, hm3⟩
  have f8 := f5.ext hm3
  have hE3 := hE2.ext hm3
  have hs3 := hm3.size
  refine .zb (.ne rfl rfl) fun b3 hb3 => ?_
  refine .gi 2 rfl ?_
  cases b3
  case true =>
    replace hb3 := bne_iff_ne.1 hb3.symm
    refine .gi 5 rfl ?_
    refine r_ret1 Tryz.func23 rfl rfl ?_
    exact Ret.mk ⟨⟨_, q23_3, rfl⟩, hE3⟩
  replace hb3 := bne_eq_false_iff_eq.1 hb3.symm
  refine .gi 3 rfl ?_
  refine r_join (J := fun E W => ∃ (q3 : Bool), E = [(1, ptr b1 0), (3, .bool q3)] ∧ Ext w3 W ∧ (q3 = Ml.nodesM c)) ?_ ?_
  · rintro _ w4 ⟨q3, rfl, hm4, hj1⟩
    have f9 := f8.ext hm4
    have hE4 := hE3.ext hm4
    have hs4 := hm4.size
    refine .gi 1 rfl ?_
    refine r_join (J := fun E W => ∃ (q4 : Bool), E = [(1, ptr b1 0), (3, .bool q3), (4, .bool q4)] ∧ Ext w4 W ∧ (q4 = Ml.sizesM c)) ?_ ?_
    · rintro _ w5 ⟨q4, rfl, hm5, hj2⟩
      have f12 := f9.ext hm5
      have hE5 := hE4.ext hm5
      have hs5 := hm5.size
      refine .gi 1 rfl ?_
      refine r_join (J := fun E W => ∃ (q5 : Bool), E = [(3, .bool q3), (4, .bool q4), (5, .bool q5)] ∧ Ext w5 W ∧ (q5 = Ml.timesM c)) ?_ ?_
      · rintro _ w6 ⟨q5, rfl, hm6, hj3⟩
        have hE6 := hE5.ext hm6
        have hs6 := hm6.size
        refine .go 4 rfl ?_
        cases q3
        case true =>
          replace hj1 := hj1.symm
          refine .go 3 rfl ?_
          cases q4
          case true =>
            replace hj2 := hj2.symm
            refine .gi 4 rfl ?_
            refine r_ret1 Tryz.func23 rfl rfl ?_
            exact Ret.mk ⟨⟨_, q23_3, rfl⟩, hE6⟩
          replace hj2 := hj2.symm
          refine .gi 4 rfl ?_
          refine r_ret1 Tryz.func23 rfl rfl ?_
          exact Ret.mk ⟨⟨_, q23_3, rfl⟩, hE6⟩
        replace hj1 := hj1.symm
        refine .gi 7 rfl ?_
        refine r_ret1 Tryz.func23 rfl rfl ?_
        exact Ret.mk ⟨⟨_, q23_3, rfl⟩, hE6⟩
      · intro hJ3
        have hj01 : Ext w5 w5 := Mod.refl _ _
        refine .go 1 rfl ?_
        refine .z (.fieldAddr fl26_6 rfl) ?_
        refine .z (.l1 ti3 f12) ?_
        refine .ac (.callF cl56 rfl (within_c (w0 := w5)  (c.lease) (1) (1000) oa oa oa) ?_)
        rintro _ w7 ⟨⟨b4, hb4, rfl⟩, hm7⟩
        have f15 := f12.ext hm7
        have hE6 := hE5.ext hm7
        have hb5 := hj01.ext hm7
        have hs6 := hm7.size
        refine .go 1 rfl ?_
        cases b4
        case true =>
          replace hb4 := hb4.symm
          have := Ml.within_true hb4
          refine .z (.fieldAddr fl26_7 rfl) ?_
          refine .z (.l1 ti3 f15) ?_
          refine .ac (.callF cl56 rfl (within_c (w0 := w7)  (c.hedge) (1) (1000) oa oa oa) ?_)
          rintro _ w8 ⟨⟨b5, hb6, rfl⟩, hm8⟩
          have f18 := f15.ext hm8
          have hE7 := hE6.ext hm8
          have hb7 := hb5.ext hm8
          have hs7 := hm8.size
          refine .go 2 rfl ?_
          cases b5
          case true =>
            replace hb6 := hb6.symm
            have := Ml.within_true hb6
            refine .z (.fieldAddr fl26_8 rfl) ?_
            refine .z (.l1 ti3 f18) ?_
            refine .ac (.callF cl56 rfl (within_c (w0 := w8)  (c.first) (1) (10) oa oa oa) ?_)
            rintro _ w9 ⟨⟨b6, hb8, rfl⟩, hm9⟩
            have f21 := f18.ext hm9
            have hE8 := hE7.ext hm9
            have hb9 := hb7.ext hm9
            have hs8 := hm9.size
            refine .go 2 rfl ?_
            cases b6
            case true =>
              replace hb8 := hb8.symm
              have := Ml.within_true hb8
              refine .z (.fieldAddr fl26_9 rfl) ?_
              refine .z (.l1 ti3 f21) ?_
              refine .z (.fieldAddr fl26_8 rfl) ?_
              refine .z (.l1 ti3 f21) ?_
              refine .ac (.callF cl56 rfl (within_c (w0 := w9)  (c.cap) (c.first) (50) oa oa oa) ?_)
              rintro _ w10 ⟨⟨b7, hb10, rfl⟩, hm10⟩
              have f24 := f21.ext hm10
              have hE9 := hE8.ext hm10
              have hb11 := hb9.ext hm10
              have hs9 := hm10.size
              refine .go 2 rfl ?_
              cases b7
              case true =>
                replace hb10 := hb10.symm
                have := Ml.within_true hb10
                refine .z (.fieldAddr fl26_10 rfl) ?_
                refine .z (.l1 ti3 f24) ?_
                refine .ac (.callF cl56 rfl (within_c (w0 := w10)  (c.jitter) (0) (10) oa oa oa) ?_)
                rintro _ w11 ⟨⟨b8, hb12, rfl⟩, hm11⟩
                have hE10 := hE9.ext hm11
                have hb13 := hb11.ext hm11
                have hs10 := hm11.size
                refine .gi 3 rfl ?_
                exact (hJ3 _ _ ⟨b8, rfl, hb13, q23_1⟩).sub ⟨rfl, rfl, rfl, trivial⟩
              replace hb10 := hb10.symm
              have := Ml.within_false hb10
              refine .gi 6 rfl ?_
              exact (hJ3 _ _ ⟨false, rfl, hb11, q23_1⟩).sub ⟨rfl, rfl, rfl, trivial⟩
            replace hb8 := hb8.symm
            have := Ml.within_false hb8
            refine .gi 13 rfl ?_
            exact (hJ3 _ _ ⟨false, rfl, hb9, q23_1⟩).sub ⟨rfl, rfl, rfl, trivial⟩
          replace hb6 := hb6.symm
          have := Ml.within_false hb6
          refine .gi 18 rfl ?_
          exact (hJ3 _ _ ⟨false, rfl, hb7, q23_1⟩).sub ⟨rfl, rfl, rfl, trivial⟩
        replace hb4 := hb4.symm
        have := Ml.within_false hb4
        refine .gi 23 rfl ?_
        exact (hJ3 _ _ ⟨false, rfl, hb5, q23_1⟩).sub ⟨rfl, rfl, rfl, trivial⟩
    · intro hJ2
      have hj01 : Ext w4 w4 := Mod.refl _ _
      refine .go 1 rfl ?_
      refine .z (.fieldAddr fl26_4 rfl) ?_
      refine .z (.l1 ti3 f9) ?_
      refine .ac (.callF cl56 rfl (within_c (w0 := w4)  (c.slots) (1) (4) oa oa oa) ?_)
      rintro _ w6 ⟨⟨b4, hb4, rfl⟩, hm6⟩
      have f12 := f9.ext hm6
      have hE5 := hE4.ext hm6
      have hb5 := hj01.ext hm6
      have hs5 := hm6.size
      refine .go 1 rfl ?_
      cases b4
      case true =>
        replace hb4 := hb4.symm
        have := Ml.within_true hb4
        refine .z (.fieldAddr fl26_5 rfl) ?_
        refine .z (.l1 ti3 f12) ?_
        refine .ac (.callF cl56 rfl (within_c (w0 := w6)  (c.batch) (1) (5) oa oa oa) ?_)
        rintro _ w7 ⟨⟨b5, hb6, rfl⟩, hm7⟩
        have f15 := f12.ext hm7
        have hE6 := hE5.ext hm7
        have hb7 := hb5.ext hm7
        have hs6 := hm7.size
        refine .go 2 rfl ?_
        cases b5
        case true =>
          replace hb6 := hb6.symm
          have := Ml.within_true hb6
          refine .z (.fieldAddr fl26_11 rfl) ?_
          refine .z (.l1 ti3 f15) ?_
          refine .ac (.callF cl56 rfl (within_c (w0 := w7)  (c.net) (8) (64) oa oa oa) ?_)
          rintro _ w8 ⟨⟨b6, hb8, rfl⟩, hm8⟩
          have hE7 := hE6.ext hm8
          have hb9 := hb7.ext hm8
          have hs7 := hm8.size
          refine .gi 3 rfl ?_
          exact (hJ2 _ _ ⟨b6, rfl, hb9, q23_2⟩).sub ⟨rfl, rfl, rfl, trivial⟩
        replace hb6 := hb6.symm
        have := Ml.within_false hb6
        refine .gi 6 rfl ?_
        exact (hJ2 _ _ ⟨false, rfl, hb7, q23_2⟩).sub ⟨rfl, rfl, rfl, trivial⟩
      replace hb4 := hb4.symm
      have := Ml.within_false hb4
      refine .gi 11 rfl ?_
      exact (hJ2 _ _ ⟨false, rfl, hb5, q23_2⟩).sub ⟨rfl, rfl, rfl, trivial⟩
  · intro hJ1
    have hj01 : Ext w3 w3 := Mod.refl _ _
    refine .go 1 rfl ?_
    refine .z (.fieldAddr fl26_2 rfl) ?_
    refine .z (.l1 ti3 f8) ?_
    refine .ac (.callF cl56 rfl (within_c (w0 := w3)  (c.workers) (1) (5) oa oa oa) ?_)
    rintro _ w5 ⟨⟨b4, hb4, rfl⟩, hm5⟩
    have f11 := f8.ext hm5
    have hE4 := hE3.ext hm5
    have hb5 := hj01.ext hm5
    have hs4 := hm5.size
    refine .go 1 rfl ?_
    cases b4
    case true =>
      replace hb4 := hb4.symm
      have := Ml.within_true hb4
      refine .z (.fieldAddr fl26_3 rfl) ?_
      refine .z (.l1 ti3 f11) ?_
      refine .z (.fieldAddr fl26_2 rfl) ?_
      refine .z (.l1 ti3 f11) ?_
      refine .z (.min rfl rfl) ?_
      refine .ac (.callF cl56 rfl (within_c (w0 := w5)  (c.copies) (1) ((min 3 c.workers)) oa oa oa) ?_)
      rintro _ w6 ⟨⟨b5, hb6, rfl⟩, hm6⟩
      have hE5 := hE4.ext hm6
      have hb7 := hb5.ext hm6
      have hs5 := hm6.size
      refine .gi 3 rfl ?_
      exact (hJ1 _ _ ⟨b5, rfl, hb7, q23_4⟩).sub ⟨rfl, rfl, trivial⟩
    replace hb4 := hb4.symm
    have := Ml.within_false hb4
    refine .gi 9 rfl ?_
    exact (hJ1 _ _ ⟨false, rfl, hb5, q23_4⟩).sub ⟨rfl, rfl, trivial⟩
set_option maxRecDepth 20000 in
set_option maxHeartbeats 4000000 in
theorem shards_c {w0 : World}  {c : Cfg} {v_c_words : Value} {v_c_cuts : Value} (h_c_words : Sl encS w0 (Iv 0 w0.heap.size) v_c_words c.words) (h_c_cuts : Sl encKey w0 (Iv 0 w0.heap.size) v_c_cuts c.cuts) (h_c : Cfg.Ok c) :
    Calls Tryz.prog 57 #[.agg #[v_c_words, v_c_cuts, .int .i64 c.workers, .int .i64 c.copies, .int .i64 c.slots, .int .i64 c.batch, .int .i64 c.lease, .int .i64 c.hedge, .int .i64 c.first, .int .i64 c.cap, .int .i64 c.jitter, .int .i64 c.net]] w0 (Ret fun rv w1 => rv = .int .i64 (((Ml.shards c : Nat) : Int)) ∧ Ext w0 w1) := by
  have hE0 : Ext w0 w0 := Mod.refl _ _
  have hle1 := h_c_words.le
  have hle2 := h_c_cuts.le
  refine calls_enter Tryz.func57 rfl Tryz.ntmps57 rfl ?_
  refine .go 2 rfl ?_
  refine .ac (.box [v_c_words, v_c_cuts, .int .i64 c.workers, .int .i64 c.copies, .int .i64 c.slots, .int .i64 c.batch, .int .i64 c.lease, .int .i64 c.hedge, .int .i64 c.first, .int .i64 c.cap, .int .i64 c.jitter, .int .i64 c.net] rfl rfl fun w1 b1 hm1 hb1 hz1 hk1 => ?_)
  have f1 := h_c_words.ext hm1
  have f2 := h_c_cuts.ext hm1
  have hE1 := hE0.ext hm1
  have hs1 := hm1.size
  refine .go 5 rfl ?_
  refine .z (.loadN ti26 rfl (fun _ e => e ▸ hk1.row) rfl) ?_
  refine .ac (.callF cl23 rfl (may_c (w0 := w1) (c := c)  ((f1).iv (Nat.zero_le _) (by omega)) ((f2).iv (Nat.zero_le _) (by omega)) (by first | assumption | exact Ml.Cfg.ok_of (by decide +kernel))) ?_)
  rintro _ w2 ⟨⟨b2, hb2, rfl⟩, hm2⟩
  have f4 := f2.ext hm2
  have f5 := hk1.ext hm2
  have hE2 := hE1.ext hm2
  have hs2 := hm2.size
  cases b2
  case true =>
    replace hb2 := hb2.symm
    have := Ml.may_bounds hb2
    refine .z (.not rfl) ?_
    refine .go 5 rfl ?_
    refine .z (.fieldAddr fl26_1 rfl) ?_
    refine .z (.l1 ti24 f5) ?_
    refine .z (.lenSl Tryz.underlying24 (f4) rfl) ?_
    refine .z (.addI (((c.cuts.length + 1 : Nat) : Int)) rfl rfl (by omega)) ?_
    refine .gi 2 rfl ?_
    refine r_ret1 Tryz.func57 rfl rfl ?_
    exact Ret.mk ⟨(congrArg (Value.int .i64) (by first | simp only [Ml.shards, *]; rfl | (exfalso; omega))), hE2⟩
  replace hb2 := hb2.symm
  refine .z (.not rfl) ?_
  refine .gi 6 rfl ?_
  refine r_ret1 Tryz.func57 rfl rfl ?_
  exact Ret.mk ⟨(congrArg (Value.int .i64) (by first | simp only [Ml.shards, *]; rfl | (exfalso; omega))), hE2⟩
set_option maxRecDepth 20000 in
set_option maxHeartbeats 4000000 in
theorem copies_c {w0 : World}  {c : Cfg} {v_c_words : Value} {v_c_cuts : Value} (shard : Int) (h_c_words : Sl encS w0 (Iv 0 w0.heap.size) v_c_words c.words) (h_c_cuts : Sl encKey w0 (Iv 0 w0.heap.size) v_c_cuts c.cuts) (h_c : Cfg.Ok c) (h_shard : I64 shard) :
    Calls Tryz.prog 59 #[.agg #[v_c_words, v_c_cuts, .int .i64 c.workers, .int .i64 c.copies, .int .i64 c.slots, .int .i64 c.batch, .int .i64 c.lease, .int .i64 c.hedge, .int .i64 c.first, .int .i64 c.cap, .int .i64 c.jitter, .int .i64 c.net], .int .i64 shard] w0 (Ret fun rv w1 => (∃ gr, Acc Ik.encI 3 1 w1 gr rv (Ml.copiesM c shard) ∧ (gr = 0 ∨ w0.heap.size < gr)) ∧ Ext w0 w1) := by
  have hE0 : Ext w0 w0 := Mod.refl _ _
  have hle1 := h_c_words.le
  have hle2 := h_c_cuts.le
  have hc1 := h_c.workers
  have hc2 := h_c.copies
  have hc3 := h_c.slots
  have hc4 := h_c.batch
  have hc5 := h_c.lease
  have hc6 := h_c.hedge
  have hc7 := h_c.first
  have hc8 := h_c.cap
  have hc9 := h_c.jitter
  have hc10 := h_c.net
  refine calls_enter Tryz.func59 rfl Tryz.ntmps59 rfl ?_
  refine .go 2 rfl ?_
  refine .ac (.box [v_c_words, v_c_cuts, .int .i64 c.workers, .int .i64 c.copies, .int .i64 c.slots, .int .i64 c.batch, .int .i64 c.lease, .int .i64 c.hedge, .int .i64 c.first, .int .i64 c.cap, .int .i64 c.jitter, .int .i64 c.net] rfl rfl fun w1 b1 hm1 hb1 hz1 hk1 => ?_)
  have f1 := h_c_words.ext hm1
  have f2 := h_c_cuts.ext hm1
  have hE1 := hE0.ext hm1
  have hs1 := hm1.size
  refine .go 6 rfl ?_
  refine .z (.loadN ti26 rfl (fun _ e => e ▸ hk1.row) rfl) ?_
  refine .ac (.callF cl57 rfl (shards_c (w0 := w1) (c := c)  ((f1).iv (Nat.zero_le _) (by omega)) ((f2).iv (Nat.zero_le _) (by omega)) (by first | assumption | exact Ml.Cfg.ok_of (by decide +kernel))) ?_)
  rintro _ w2 ⟨rfl, hm2⟩
  have f3 := f1.ext hm2
  have f4 := f2.ext hm2
  have f5 := hk1.ext hm2
  have hE2 := hE1.ext hm2
  have hs2 := hm2.size
  have := Ml.shards_le c
  refine .z (.subI (((((Ml.shards c : Nat) : Int)) - 1)) rfl rfl (by omega)) ?_
  refine .ac (.callF cl56 rfl (within_c (w0 := w2)  (shard) (0) (((((Ml.shards c : Nat) : Int)) - 1)) oa oa oa) ?_)
  rintro _ w3 ⟨⟨b2, hb2, rfl⟩, hm3⟩
  have f6 := f3.ext hm3
  have f7 := f4.ext hm3
  have f8 := f5.ext hm3
  have hE3 := hE2.ext hm3
  have hs3 := hm3.size
  cases b2
  case true =>
    replace hb2 := hb2.symm
    have := Ml.within_true hb2
    refine .z (.not rfl) ?_
    refine .go 10 rfl ?_
    refine .z (.fieldAddr fl26_3 rfl) ?_
    refine .z (.l1 ti3 f8) ?_
    refine .gi 3 rfl ?_
    refine r_loop (I := fun m E W => ∃ (v_l : Value) (g_l : Nat) (l : List Int) (j : Nat), E = [(1, .int .i64 shard), (2, ptr b1 0), (5, v_l), (14, .int .i64 c.copies), (15, .int .i64 (((j : Nat) : Int)))] ∧ m = c.copies.toNat - j ∧ Ext w0 W ∧ w3.heap.size ≤ W.heap.size ∧ Acc Ik.encI 3 1 W g_l v_l l ∧ (g_l = 0 ∨ w0.heap.size < g_l) ∧ Bk W b1 [v_c_words, v_c_cuts, .int .i64 c.workers, .int .i64 c.copies, .int .i64 c.slots, .int .i64 c.batch, .int .i64 c.lease, .int .i64 c.hedge, .int .i64 c.first, .int .i64 c.cap, .int .i64 c.jitter, .int .i64 c.net] 26 ∧ Sl encS W (Iv 0 w0.heap.size) v_c_words c.words ∧ Sl encKey W (Iv 0 w0.heap.size) v_c_cuts c.cuts ∧ b1 + 1 ≠ g_l ∧ (l = (List.range j).map (fun j : Nat => 1 + (shard + (j : Int)) % c.workers)) ∧ (l.length = j) ∧ (j ≤ c.copies.toNat)) ?_ ?_
    · refine ⟨_, _, ⟨(.slice none 0 0 : Value), (0 : Nat), ([] : List Int), (0 : Nat), rfl, rfl, hE3, Nat.le_refl _, Acc.nil, (by omega), f8, f6, f7, (by omega), (by rfl), (by rfl), (by exact Nat.zero_le _)⟩, ⟨rfl, rfl, rfl, rfl, rfl, trivial⟩⟩
    · rintro _ _ w4 ⟨v_l, g_l, l, j, rfl, rfl, hE4, hs4, ha1, hg1, f9, f10, f11, hn1, hi, hl, hj⟩ ih1
      have hmy := Ml.may_bounds (Ml.may_of_shards (c := c) (by omega))
      refine .go 2 rfl ?_
      refine .zb (.lt rfl rfl) fun b3 hb3 => ?_
      refine .gi 2 rfl ?_
      cases b3
      case true =>
        replace hb3 := dt hb3
        refine .go 13 rfl ?_
        refine .z (.addI ((shard + (((j : Nat) : Int)))) rfl rfl (by omega)) ?_
        refine .z (.fieldAddr fl26_2 rfl) ?_
        refine .z (.l1 ti3 f9) ?_
        have := Int.emod_nonneg ((shard + (((j : Nat) : Int))) : Int) (by omega : (c.workers : Int) ≠ 0)
        have := Int.emod_lt_of_pos ((shard + (((j : Nat) : Int))) : Int) (by omega : (0 : Int) < c.workers)
        refine .z (.remI (((shard + (((j : Nat) : Int))) % c.workers)) rfl rfl ⟨by omega, by omega, rfl⟩) ?_
        refine .z (.addI ((1 + (((shard + (((j : Nat) : Int))) % c.workers)))) rfl rfl (by omega)) ?_
        refine .ac (.buildSlice [(.int .i64 ((1 + (((shard + (((j : Nat) : Int))) % c.workers)))) : Value)] Tryz.underlying57 ti3 rfl rfl rfl (by decide) fun w5 b4 hm4 hb4 hz2 hk2 => ?_)
        have hl1 := ha1.lt
        have f12 := ha1.ext hm4
        have f13 := f9.ext hm4
        have f14 := f10.ext hm4
        have f15 := f11.ext hm4
        have hE5 := hE4.ext hm4
        have hs5 := hm4.size
        have hl2 := Sl.of_blk (enc := Ik.encI) hk2 ([(1 + (((shard + (((j : Nat) : Int))) % c.workers)))] : List Int) 1 rfl rfl (by unfold maxLen; omega)
        have hl3 := f12.lt
        refine .ac (.append f12 Tryz.underlying57 ti3 rfl Ik.encI_len Ik.encI_one rfl rfl (hl2) ol ox fun v1 g1 w6 ha2 hm5 hg2 hz3 => ?_)
        have hl4 := f12.lt
        have f16 := f13.keepG hm5 (by omega)
        have f17 := f14.keepG hm5 (by omega)
        have f18 := f15.keepG hm5 (by omega)
        have hE6 := Ext.thenG hE5 hm5 (by omega)
        have hs6 := hm5.size
        refine .go 4 rfl ?_
        refine .z (.addI (((j + 1 : Nat) : Int)) rfl rfl (by omega)) ?_
        refine .gi 2 rfl ?_
        exact (ih1 _ _ _ ⟨(v1 : Value), (g1 : Nat), ((l ++ [(1 + (((shard + (((j : Nat) : Int))) % c.workers)))]) : List Int), (j + 1 : Nat), rfl, rfl, hE6, (by omega), ha2, (by omega), f16, f17, f18, (by omega), (by first | rw [hi, List.range_succ, List.map_append]; rfl | (exfalso; omega)), (by first | omega | (simp only [List.length_append, List.length_cons, List.length_nil]; omega) | (exfalso; omega)), (by first | omega | (exfalso; omega))⟩ (by omega)).sub ⟨rfl, rfl, rfl, rfl, rfl, trivial⟩
      replace hb3 := df hb3
      refine .gi 7 rfl ?_
      refine r_ret1 Tryz.func59 rfl rfl ?_
      exact Ret.mk ⟨⟨_, Acc.cast ha1 (by first | exact Ml.copies_yes hb2 hi (by omega) | exact Ml.copies_no hb2 | (exfalso; omega)), by omega⟩, hE4⟩
  replace hb2 := hb2.symm
  have := Ml.within_false hb2
  refine .z (.not rfl) ?_
  refine .gi 6 rfl ?_
  refine r_ret1 Tryz.func59 rfl rfl ?_
  exact Ret.mk ⟨⟨0, Acc.cast Acc.nil (by first | exact Ml.copies_yes hb2 hi (by omega) | exact Ml.copies_no hb2 | (exfalso; omega)), .inl rfl⟩, hE3⟩
set_option maxRecDepth 20000 in
set_option maxHeartbeats 4000000 in
theorem sindex_c {w0 : World}  {v_s : Value} {s : List Int} (v : Int) (h_s : Sl Ik.encI w0 (Iv 0 w0.heap.size) v_s s) :
    Calls Tryz.prog 106 #[v_s, .int .i64 v] w0 (Ret fun rv w1 => rv = .int .i64 (Ml.indexI s v) ∧ Ext w0 w1) := by
  have hE0 : Ext w0 w0 := Mod.refl _ _
  have hle1 := h_s.le
  refine calls_enter Tryz.func106 rfl Tryz.ntmps106 rfl ?_
  refine .go 8 rfl ?_
  refine .z (.lenSl Tryz.underlying57 (h_s) rfl) ?_
  refine .gi 3 rfl ?_
  refine r_loop (I := fun m E W => ∃ (k : Nat), E = [(0, v_s), (1, .int .i64 v), (7, .int .i64 (((s.length : Nat) : Int))), (8, .int .i64 (((k : Nat) : Int)))] ∧ m = s.length - k ∧ Ext w0 W ∧ w0.heap.size ≤ W.heap.size ∧ Sl Ik.encI W (Iv 0 w0.heap.size) v_s s ∧ (Ml.IndexInv s v k)) ?_ ?_
  · refine ⟨_, _, ⟨(0 : Nat), rfl, rfl, hE0, Nat.le_refl _, h_s, (by exact Ml.IndexInv.start s v)⟩, ⟨rfl, rfl, rfl, rfl, trivial⟩⟩
  · rintro _ _ w1 ⟨k, rfl, rfl, hE1, hs1, f1, hi⟩ ih1
    refine .go 2 rfl ?_
    refine .zb (.lt rfl rfl) fun b1 hb1 => ?_
    refine .gi 2 rfl ?_
    cases b1
    case true =>
      replace hb1 := dt hb1
      obtain ⟨x1, b2, o1, hx1, hr1, hl1, hu1, hw1⟩ := Sl.at' (P := Tryz.prog) f1 Tryz.underlying57 ti3 Ik.encI_len (k := .i64) (n := ((k : Nat) : Int)) (k) (by omega) ao
      refine .go 14 rfl ?_
      refine .z (.indexAddr rfl rfl hr1) ?_
      refine .z (.lr ti3 hw1) ?_
      refine .zb (.eq rfl rfl) fun b3 hb2 => ?_
      refine .gi 1 rfl ?_
      cases b3
      case true =>
        replace hb2 := eq_of_beq hb2.symm
        refine .gi 6 rfl ?_
        refine r_ret1 Tryz.func106 rfl rfl ?_
        exact Ret.mk ⟨(congrArg (Value.int .i64) (by first | exact hi.found hx1 hb2 | exact hi.fin (by omega) | (exfalso; omega))), hE1⟩
      replace hb2 := ne_of_beq_false hb2.symm
      refine .go 4 rfl ?_
      refine .z (.addI (((k + 1 : Nat) : Int)) rfl rfl (by omega)) ?_
      refine .gi 2 rfl ?_
      exact (ih1 _ _ _ ⟨(k + 1 : Nat), rfl, rfl, hE1, (by omega), f1, (by first | exact hi.next hx1 hb2 | (exfalso; omega))⟩ (by omega)).sub ⟨rfl, rfl, rfl, rfl, trivial⟩
    replace hb1 := df hb1
    refine .gi 6 rfl ?_
    refine r_ret1 Tryz.func106 rfl rfl ?_
    exact Ret.mk ⟨(congrArg (Value.int .i64) (by first | exact hi.found hx1 hb2 | exact hi.fin (by omega) | (exfalso; omega))), hE1⟩
set_option maxRecDepth 20000 in
set_option maxHeartbeats 4000000 in
theorem scontains_c {w0 : World}  {v_s : Value} {s : List Int} (v : Int) (h_s : Sl Ik.encI w0 (Iv 0 w0.heap.size) v_s s) :
    Calls Tryz.prog 58 #[v_s, .int .i64 v] w0 (Ret fun rv w1 => (∃ rb : Bool, rb = (s.contains v) ∧ rv = .bool rb) ∧ Ext w0 w1) := by
  have hE0 : Ext w0 w0 := Mod.refl _ _
  have hle1 := h_s.le
  refine calls_enter Tryz.func58 rfl Tryz.ntmps58 rfl ?_
  refine .go 8 rfl ?_
  refine .ac (.callF cl106 rfl (sindex_c (w0 := w0) (s := s) (v) ((h_s).iv (Nat.zero_le _) (by omega))) ?_)
  rintro _ w1 ⟨rfl, hm1⟩
  have hE1 := hE0.ext hm1
  have hs1 := hm1.size
  refine .zb (.ge rfl rfl) fun b1 hb1 => ?_
  refine .gi 2 rfl ?_
  refine r_ret1 Tryz.func58 rfl rfl ?_
  exact Ret.mk ⟨⟨_, (by first | rw [Ml.contains_index]; assumption | (exfalso; omega)), rfl⟩, hE1⟩
theorem q25_1 {p : Prop} (h : p := by first | exact Ml.keeps_yes hi (by assumption) | exact Ml.keeps_no hi (by assumption) | (exfalso; omega)) : p := h
set_option maxRecDepth 20000 in
set_option maxHeartbeats 4000000 in
theorem keeps_c {w0 : World}  {c : Cfg} {v_c_words : Value} {v_c_cuts : Value} (worker : Int) (h_c_words : Sl encS w0 (Iv 0 w0.heap.size) v_c_words c.words) (h_c_cuts : Sl encKey w0 (Iv 0 w0.heap.size) v_c_cuts c.cuts) (h_c : Cfg.Ok c) (h_worker : I64 worker) :
    Calls Tryz.prog 25 #[.agg #[v_c_words, v_c_cuts, .int .i64 c.workers, .int .i64 c.copies, .int .i64 c.slots, .int .i64 c.batch, .int .i64 c.lease, .int .i64 c.hedge, .int .i64 c.first, .int .i64 c.cap, .int .i64 c.jitter, .int .i64 c.net], .int .i64 worker] w0 (Ret fun rv w1 => (∃ gr, Acc Ik.encI 3 1 w1 gr rv (Ml.keepsM c worker) ∧ (gr = 0 ∨ w0.heap.size < gr)) ∧ Ext w0 w1) := by
  have hE0 : Ext w0 w0 := Mod.refl _ _
  have hle1 := h_c_words.le
  have hle2 := h_c_cuts.le
  have hc1 := h_c.workers
  have hc2 := h_c.copies
  have hc3 := h_c.slots
  have hc4 := h_c.batch
  have hc5 := h_c.lease
  have hc6 := h_c.hedge
  have hc7 := h_c.first
  have hc8 := h_c.cap
  have hc9 := h_c.jitter
  have hc10 := h_c.net
  refine calls_enter Tryz.func25 rfl Tryz.ntmps25 rfl ?_
  refine .go 2 rfl ?_
  refine .ac (.box [v_c_words, v_c_cuts, .int .i64 c.workers, .int .i64 c.copies, .int .i64 c.slots, .int .i64 c.batch, .int .i64 c.lease, .int .i64 c.hedge, .int .i64 c.first, .int .i64 c.cap, .int .i64 c.jitter, .int .i64 c.net] rfl rfl fun w1 b1 hm1 hb1 hz1 hk1 => ?_)
  have f1 := h_c_words.ext hm1
  have f2 := h_c_cuts.ext hm1
  have hE1 := hE0.ext hm1
  have hs1 := hm1.size
  refine .go 9 rfl ?_
  refine .z (.loadN ti26 rfl (fun _ e => e ▸ hk1.row) rfl) ?_
  refine .ac (.callF cl57 rfl (shards_c (w0 := w1) (c := c)  ((f1).iv (Nat.zero_le _) (by omega)) ((f2).iv (Nat.zero_le _) (by omega)) (by first | assumption | exact Ml.Cfg.ok_of (by decide +kernel))) ?_)
  rintro _ w2 ⟨rfl, hm2⟩
  have f3 := f1.ext hm2
  have f4 := f2.ext hm2
  have f5 := hk1.ext hm2
  have hE2 := hE1.ext hm2
  have hs2 := hm2.size
  have := Ml.shards_le c
  refine .gi 3 rfl ?_
  refine r_loop (I := fun m E W => ∃ (v_l : Value) (g_l : Nat) (l : List Int) (k : Nat), E = [(1, .int .i64 worker), (2, ptr b1 0), (5, v_l), (8, .int .i64 ((((Ml.shards c : Nat) : Int)))), (9, .int .i64 (((k : Nat) : Int)))] ∧ m = Ml.shards c - k ∧ Ext w0 W ∧ w2.heap.size ≤ W.heap.size ∧ Acc Ik.encI 3 1 W g_l v_l l ∧ (g_l = 0 ∨ w0.heap.size < g_l) ∧ Bk W b1 [v_c_words, v_c_cuts, .int .i64 c.workers, .int .i64 c.copies, .int .i64 c.slots, .int .i64 c.batch, .int .i64 c.lease, .int .i64 c.hedge, .int .i64 c.first, .int .i64 c.cap, .int .i64 c.jitter, .int .i64 c.net] 26 ∧ Sl encS W (Iv 0 w0.heap.size) v_c_words c.words ∧ Sl encKey W (Iv 0 w0.heap.size) v_c_cuts c.cuts ∧ b1 + 1 ≠ g_l ∧ (l = ((List.range k).filter (fun s : Nat => (Ml.copiesM c (s : Int)).contains worker)).map (fun s : Nat => (s : Int))) ∧ (l.length ≤ k) ∧ (k ≤ Ml.shards c)) ?_ ?_
  · refine ⟨_, _, ⟨(.slice none 0 0 : Value), (0 : Nat), ([] : List Int), (0 : Nat), rfl, rfl, hE2, Nat.le_refl _, Acc.nil, (by omega), f5, f3, f4, (by omega), (by rfl), (by exact Nat.zero_le _), (by exact Nat.zero_le _)⟩, ⟨rfl, rfl, rfl, rfl, rfl, trivial⟩⟩
  · rintro _ _ w3 ⟨v_l, g_l, l, k, rfl, rfl, hE3, hs3, ha1, hg1, f6, f7, f8, hn1, hi, hl, hk⟩ ih1
    have hsh := Ml.shards_le c
    refine .go 2 rfl ?_
    refine .zb (.lt rfl rfl) fun b2 hb2 => ?_
    refine .gi 2 rfl ?_
    cases b2
    case true =>
      replace hb2 := dt hb2
      refine .go 11 rfl ?_
      refine .z (.loadN ti26 rfl (fun _ e => e ▸ f6.row) rfl) ?_
      refine .go 1 rfl ?_
      refine .ac (.callF cl59 rfl (copies_c (w0 := w3) (c := c) (((k : Nat) : Int)) ((f7).iv (Nat.zero_le _) (by omega)) ((f8).iv (Nat.zero_le _) (by omega)) (by first | assumption | exact Ml.Cfg.ok_of (by decide +kernel)) oa) ?_)
      rintro v1 w4 ⟨⟨gr1, h1, hg2⟩, hm3⟩
      have hl1 := ha1.lt
      have f9 := ha1.ext hm3
      have f10 := f6.ext hm3
      have f11 := f7.ext hm3
      have f12 := f8.ext hm3
      have hE4 := hE3.ext hm3
      have hs4 := hm3.size
      have hle_1 := h1.le
      have hlt_1 := h1.lt
      have := copies_len c (((k : Nat) : Int))
      refine .go 1 rfl ?_
      refine .ac (.callF cl58 rfl (scontains_c (w0 := w4) (s := (Ml.copiesM c (((k : Nat) : Int)))) (worker) ((h1.sl).iv (Nat.zero_le _) (by omega))) ?_)
      rintro _ w5 ⟨⟨b3, hb3, rfl⟩, hm4⟩
      have hl2 := f9.lt
      have hl3 := h1.lt
      have f13 := f9.ext hm4
      have f14 := f10.ext hm4
      have f15 := f11.ext hm4
      have f16 := f12.ext hm4
      have f17 := h1.ext hm4
      have hE5 := hE4.ext hm4
      have hs5 := hm4.size
      refine .gi 1 rfl ?_
      cases b3
      case true =>
        replace hb3 := hb3.symm
        refine .go 4 rfl ?_
        refine .ac (.buildSlice [(.int .i64 (((k : Nat) : Int)) : Value)] Tryz.underlying57 ti3 rfl rfl rfl (by decide) fun w6 b4 hm5 hb4 hz2 hk2 => ?_)
        have hl4 := f13.lt
        have hl5 := f17.lt
        have f18 := f13.ext hm5
        have f19 := f14.ext hm5
        have f20 := f15.ext hm5
        have f21 := f16.ext hm5
        have f22 := f17.ext hm5
        have hE6 := hE5.ext hm5
        have hs6 := hm5.size
        have hl6 := Sl.of_blk (enc := Ik.encI) hk2 ([((k : Nat) : Int)] : List Int) 1 rfl rfl (by unfold maxLen; omega)
        have hl7 := f18.lt
        refine .ac (.append f18 Tryz.underlying57 ti3 rfl Ik.encI_len Ik.encI_one rfl rfl (hl6) ol ox fun v2 g1 w7 ha2 hm6 hg3 hz3 => ?_)
        have hl8 := f18.lt
        have hl9 := f22.lt
        have f23 := f19.keepG hm6 (by omega)
        have f24 := f20.keepG hm6 (by omega)
        have f25 := f21.keepG hm6 (by omega)
        have hE7 := Ext.thenG hE6 hm6 (by omega)
        have hs7 := hm6.size
        refine .go 4 rfl ?_
        refine .z (.addI (((k + 1 : Nat) : Int)) rfl rfl (by omega)) ?_
        refine .gi 2 rfl ?_
        exact (ih1 _ _ _ ⟨(v2 : Value), (g1 : Nat), ((l ++ [((k : Nat) : Int)]) : List Int), (k + 1 : Nat), rfl, rfl, hE7, (by omega), ha2, (by omega), f23, f24, f25, (by omega), q25_1, (by first | omega | (simp only [List.length_append, List.length_cons, List.length_nil]; omega) | (exfalso; omega)), (by first | omega | (exfalso; omega))⟩ (by omega)).sub ⟨rfl, rfl, rfl, rfl, rfl, trivial⟩
      replace hb3 := hb3.symm
      refine .go 4 rfl ?_
      refine .z (.addI (((k + 1 : Nat) : Int)) rfl rfl (by omega)) ?_
      refine .gi 2 rfl ?_
      exact (ih1 _ _ _ ⟨(v_l : Value), (g_l : Nat), (l : List Int), (k + 1 : Nat), rfl, rfl, hE5, (by omega), f13, (by omega), f14, f15, f16, (by omega), q25_1, (by first | omega | (simp only [List.length_append, List.length_cons, List.length_nil]; omega) | (exfalso; omega)), (by first | omega | (exfalso; omega))⟩ (by omega)).sub ⟨rfl, rfl, rfl, rfl, rfl, trivial⟩
    replace hb2 := df hb2
    refine .gi 7 rfl ?_
    refine r_ret1 Tryz.func25 rfl rfl ?_
    exact Ret.mk ⟨⟨_, Acc.cast ha1 (by first | rw [hi, show k = Ml.shards c from by omega]; rfl | (exfalso; omega)), by omega⟩, hE3⟩
set_option maxRecDepth 20000 in
set_option maxHeartbeats 4000000 in
theorem pwords_c {w0 : World}  {c : Cfg} {v_c_words : Value} {v_c_cuts : Value} (shard : Int) (h_c_words : Sl encS w0 (Iv 0 w0.heap.size) v_c_words c.words) (h_c_cuts : Sl encKey w0 (Iv 0 w0.heap.size) v_c_cuts c.cuts) (h_c : Cfg.Ok c) (h_shard : I64 shard) (hlen : c.words.length ≤ 1000000) :
    Calls Tryz.prog 39 #[.agg #[v_c_words, v_c_cuts, .int .i64 c.workers, .int .i64 c.copies, .int .i64 c.slots, .int .i64 c.batch, .int .i64 c.lease, .int .i64 c.hedge, .int .i64 c.first, .int .i64 c.cap, .int .i64 c.jitter, .int .i64 c.net], .int .i64 shard] w0 (Ret fun rv w1 => (∃ gr, Acc encS 9 1 w1 gr rv (Ml.wordsM c shard) ∧ (gr = 0 ∨ w0.heap.size < gr)) ∧ Ext w0 w1) := by
  have hE0 : Ext w0 w0 := Mod.refl _ _
  have hle1 := h_c_words.le
  have hle2 := h_c_cuts.le
  refine calls_enter Tryz.func39 rfl Tryz.ntmps39 rfl ?_
  refine .go 2 rfl ?_
  refine .ac (.box [v_c_words, v_c_cuts, .int .i64 c.workers, .int .i64 c.copies, .int .i64 c.slots, .int .i64 c.batch, .int .i64 c.lease, .int .i64 c.hedge, .int .i64 c.first, .int .i64 c.cap, .int .i64 c.jitter, .int .i64 c.net] rfl rfl fun w1 b1 hm1 hb1 hz1 hk1 => ?_)
  have f1 := h_c_words.ext hm1
  have f2 := h_c_cuts.ext hm1
  have hE1 := hE0.ext hm1
  have hs1 := hm1.size
  refine .go 4 rfl ?_
  refine .z (.fieldAddr fl26_1 rfl) ?_
  refine .z (.l1 ti24 hk1) ?_
  refine .z (.fieldAddr fl26_0 rfl) ?_
  refine .z (.l1 ti23 hk1) ?_
  refine .go 1 rfl ?_
  refine .ac (.callF cl79 rfl (pslice_c (w0 := w1) (cuts := c.cuts) (words := c.words) (shard) ((f2).iv (Nat.zero_le _) (by omega)) ((f1).iv (Nat.zero_le _) (by omega)) oa (by exact h_c.words) ao) ?_)
  rintro v1 w2 ⟨⟨gr1, h1, hg1⟩, hm2⟩
  have hE2 := hE1.ext hm2
  have hs2 := hm2.size
  have hle_1 := h1.le
  have hlt_1 := h1.lt
  have := slice_len c.cuts c.words shard
  refine .gi 2 rfl ?_
  refine r_ret1 Tryz.func39 rfl rfl ?_
  exact Ret.mk ⟨⟨_, Acc.cast h1 (by rfl), by omega⟩, hE2⟩
end Go.Proofs
namespace Go.Proofs
open Go.Ik Go.Ml
set_option maxRecDepth 20000 in
set_option maxHeartbeats 4000000 in
theorem first_c {w0 : World}  (s : Str) (hs : s.length ≤ 1000000) (hne : s ≠ []) :
    Calls Tryz.prog 209 #[strV s] w0 (Ret fun rv w1 => ∃ u0 u1, rv = .tuple #[u0, u1] ∧ u0 = .int .i32 ((Ml.hdN s : Int)) ∧ u1 = .int .i64 (((Ml.wdN s : Nat) : Int)) ∧ Ext w0 w1) := by
  have hE0 : Ext w0 w0 := Mod.refl _ _
  refine calls_enter Tryz.func209 rfl Tryz.ntmps209 rfl ?_
  refine .go 13 rfl ?_
  refine .ac (.rangeS Tryz.underlying9 rfl fun w1 b1 hm1 hb1 hz1 hk1 => ?_)
  have hE1 := hE0.ext hm1
  have hs1 := hm1.size
  refine .gi 2 rfl ?_
  refine r_loop (I := fun m E W => ∃ (hd : Int) (p : Nat), E = [(0, strV s), (4, .int .i32 hd), (8, ptr b1 0)] ∧ m = s.length - p ∧ Ext w0 W ∧ w1.heap.size ≤ W.heap.size ∧ It W b1 s p ∧ (Ml.FirstInv s p hd) ∧ (0 ≤ hd ∧ hd ≤ 1114111)) ?_ ?_
  · refine ⟨_, _, ⟨(0 : Int), (0 : Nat), rfl, rfl, hE1, Nat.le_refl _, hk1, (by exact .inl ⟨rfl, rfl⟩), (by omega)⟩, ⟨rfl, rfl, rfl, trivial⟩⟩
  · rintro _ _ w2 ⟨hd, p, rfl, rfl, hE2, hs2, f1, hi, hr32⟩ ih1
    refine .go 2 rfl ?_
    refine .ac (.nextS rfl f1 ?_ ?_)
    · intro he1
      refine .go 9 rfl ?_
      refine .z (.lenS Tryz.underlying9 rfl) ?_
      refine .gi 3 rfl ?_
      refine r_ret2 Tryz.func209 rfl rfl rfl ?_
      exact Ret.mk ⟨_, _, rfl, (congrArg (Value.int .i32) (by first | (with_reducible exact (hi.ret (by omega)).1) | (with_reducible exact (hi.ret (by omega)).2) | (with_reducible exact (hi.fin hne (by assumption)).1) | (with_reducible exact (hi.fin hne (by assumption)).2) | (exfalso; omega))), (congrArg (Value.int .i64) (by first | (with_reducible exact (hi.ret (by omega)).1) | (with_reducible exact (hi.ret (by omega)).2) | (with_reducible exact (hi.fin hne (by assumption)).1) | (with_reducible exact (hi.fin hne (by assumption)).2) | (exfalso; omega))), hE2⟩
    · intro w3 he1 hm2 hz2 hk2
      have hE3 := Ext.thenG hE2 hm2 (by omega)
      have hs3 := hm2.size
      refine .go 17 rfl ?_
      refine .zb (.gt rfl rfl) fun b2 hb2 => ?_
      refine .gi 1 rfl ?_
      cases b2
      case true =>
        replace hb2 := dt hb2
        refine .gi 8 rfl ?_
        refine r_ret2 Tryz.func209 rfl rfl rfl ?_
        exact Ret.mk ⟨_, _, rfl, (congrArg (Value.int .i32) (by first | (with_reducible exact (hi.ret (by omega)).1) | (with_reducible exact (hi.ret (by omega)).2) | (with_reducible exact (hi.fin hne (by assumption)).1) | (with_reducible exact (hi.fin hne (by assumption)).2) | (exfalso; omega))), (congrArg (Value.int .i64) (by first | (with_reducible exact (hi.ret (by omega)).1) | (with_reducible exact (hi.ret (by omega)).2) | (with_reducible exact (hi.fin hne (by assumption)).1) | (with_reducible exact (hi.fin hne (by assumption)).2) | (exfalso; omega))), hE3⟩
      replace hb2 := df hb2
      refine .gi 7 rfl ?_
      exact (ih1 _ _ _ ⟨(((dec (s.drop p)).1 : Int) : Int), ((p + (dec (s.drop p)).2) : Nat), rfl, rfl, hE3, (by omega), hk2, (by first | exact Ml.FirstInv.next hi (by assumption) (by omega) | (exfalso; omega)), (by first | have := dec_rune (s.drop p); omega | (exfalso; omega))⟩ (by have := Ml.dec_lt (by assumption : List.drop p s ≠ []); omega)).sub ⟨rfl, rfl, rfl, trivial⟩
set_option maxRecDepth 20000 in
set_option maxHeartbeats 4000000 in
theorem slhp_c {w0 : World}  (s : Str) (p : Str)  :
    Calls Tryz.prog 219 #[strV s, strV p] w0 (Ret fun rv w1 => (∃ rb : Bool, rb = (p.isPrefixOf s) ∧ rv = .bool rb) ∧ Ext w0 w1) := by
  have hE0 : Ext w0 w0 := Mod.refl _ _
  refine calls_enter Tryz.func219 rfl Tryz.ntmps219 rfl ?_
  refine .go 7 rfl ?_
  refine .z (.lenS Tryz.underlying9 rfl) ?_
  refine .go 1 rfl ?_
  refine .z (.lenS Tryz.underlying9 rfl) ?_
  refine .zb (.ge rfl rfl) fun b1 hb1 => ?_
  refine .go 1 rfl ?_
  cases b1
  case true =>
    replace hb1 := dt hb1
    refine .go 2 rfl ?_
    refine .z (.lenS Tryz.underlying9 rfl) ?_
    refine .z (.sliceS_hi (p.length) Tryz.underlying9 rfl rfl (by omega) ao) ?_
    refine .go 1 rfl ?_
    refine .zb (.eqS rfl rfl) fun b2 hb2 => ?_
    refine .gi 3 rfl ?_
    refine r_ret1 Tryz.func219 rfl rfl ?_
    exact Ret.mk ⟨⟨_, (by first | exact Ml.hp_yes (by omega) (by assumption) | exact Ml.hp_no (by omega) | (exfalso; omega)), rfl⟩, hE0⟩
  replace hb1 := df hb1
  refine .gi 9 rfl ?_
  refine r_ret1 Tryz.func219 rfl rfl ?_
  exact Ret.mk ⟨⟨_, (by first | exact Ml.hp_yes (by omega) (by assumption) | exact Ml.hp_no (by omega) | (exfalso; omega)), rfl⟩, hE0⟩
set_option maxRecDepth 20000 in
set_option maxHeartbeats 4000000 in
theorem shp_c {w0 : World}  (s : Str) (p : Str)  :
    Calls Tryz.prog 210 #[strV s, strV p] w0 (Ret fun rv w1 => (∃ rb : Bool, rb = (p.isPrefixOf s) ∧ rv = .bool rb) ∧ Ext w0 w1) := by
  have hE0 : Ext w0 w0 := Mod.refl _ _
  refine calls_enter Tryz.func210 rfl Tryz.ntmps210 rfl ?_
  refine .go 8 rfl ?_
  refine .ac (.callF cl219 rfl (slhp_c (w0 := w0)  s p ) ?_)
  rintro _ w1 ⟨⟨b1, hb1, rfl⟩, hm1⟩
  have hE1 := hE0.ext hm1
  have hs1 := hm1.size
  refine .gi 2 rfl ?_
  refine r_ret1 Tryz.func210 rfl rfl ?_
  exact Ret.mk ⟨⟨_, (by first | assumption | (exfalso; omega)), rfl⟩, hE1⟩
set_option maxRecDepth 20000 in
set_option maxHeartbeats 4000000 in
theorem cloneE_c {w0 : World}  {v_s : Value} {s : List Ed} (h_s : Sl encE w0 (Iv 0 w0.heap.size) v_s s) (hln : s.length ≤ 1000000) :
    Calls Tryz.prog 179 #[v_s] w0 (Ret fun rv w1 => (∃ gr, Acc encE 233 2 w1 gr rv (s) ∧ (gr = 0 ∨ w0.heap.size < gr)) ∧ Ext w0 w1) := by
  have hE0 : Ext w0 w0 := Mod.refl _ _
  have hle1 := h_s.le
  refine calls_enter Tryz.func179 rfl Tryz.ntmps179 rfl ?_
  obtain ⟨ad1, cp1, hv1, hz1⟩ := Sl.isNil (h_s)
  refine .go 8 rfl ?_
  subst hv1
  refine .zb (.eqNilSl Tryz.underlying219 rfl rfl) fun b1 hb1 => ?_
  refine .gi 1 rfl ?_
  cases b1
  case true =>
    replace hb1 := hb1.symm
    replace hz1 := hz1 hb1
    refine .gi 5 rfl ?_
    refine r_ret1 Tryz.func179 rfl rfl ?_
    exact Ret.mk ⟨⟨0, Acc.cast Acc.nil (by first | (symm; assumption) | simp | (exfalso; omega)), .inl rfl⟩, hE0⟩
  replace hb1 := hb1.symm
  refine .go 4 rfl ?_
  refine .ac (.buildSlice [] Tryz.underlying219 ti233 rfl rfl rfl (by decide) fun w1 b2 hm1 hb2 hz2 hk1 => ?_)
  have f1 := h_s.ext hm1
  have hE1 := hE0.ext hm1
  have hs1 := hm1.size
  have hl1 := Acc.of_blk (enc := encE) hk1 ([] : List Ed) 0 rfl encE_len rfl (by unfold maxLen; omega)
  have hl2 := hl1.lt
  refine .go 1 rfl ?_
  refine .ac (.append hl1 Tryz.underlying219 ti233 rfl encE_len encE_one rfl rfl (f1) ol ox fun v1 g1 w2 ha1 hm2 hg1 hz3 => ?_)
  have hl3 := hl1.lt
  have hE2 := Ext.thenG hE1 hm2 (by omega)
  have hs2 := hm2.size
  refine .gi 2 rfl ?_
  refine r_ret1 Tryz.func179 rfl rfl ?_
  exact Ret.mk ⟨⟨_, Acc.cast ha1 (by first | (symm; assumption) | simp | (exfalso; omega)), by omega⟩, hE2⟩
set_option maxRecDepth 20000 in
set_option maxHeartbeats 4000000 in
theorem nodes_c {w0 : World}  {v_g : Value} {lo_g hi_g : Nat} {g : List GN} (h_g : Gr 0 w0 lo_g hi_g v_g g) (hhi_g : hi_g ≤ w0.heap.size) :
    Calls Tryz.prog 183 #[v_g] w0 (Ret fun rv w1 => rv = .int .i64 (((g.length : Nat) : Int)) ∧ Ext w0 w1) := by
  have hE0 : Ext w0 w0 := Mod.refl _ _
  refine calls_enter Tryz.func183 rfl Tryz.ntmps183 rfl ?_
  have hgr1 := h_g
  refine .go 8 rfl ?_
  rcases h_g with ⟨hv1, hN1⟩ | ⟨b1, vn1, nds1, hv1, hN1, hrw1, hsl1, hrel1⟩
  · subst hv1
    try subst hN1
    refine .z (.eqNil Tryz.underlying99 rfl rfl) ?_
    refine .gi 6 rfl ?_
    refine r_ret1 Tryz.func183 rfl rfl ?_
    exact Ret.mk ⟨(congrArg (Value.int .i64) (by first | rfl | exact congrArg (fun n : Nat => (n : Int)) hrel1.get.1 | (exfalso; omega))), hE0⟩
  · subst hv1
    have hnl1 := (All2.get hrel1).1
    refine .z (.eqNil Tryz.underlying99 rfl rfl) ?_
    refine .go 7 rfl ?_
    refine .z (.fieldAddr fl264_0 rfl) ?_
    refine .z (.load1 ti262 rfl (fun _ e => e ▸ (Rw.cell hrw1 0 _ rfl))) ?_
    refine .z (.lenSl Tryz.underlying262 (hsl1) rfl) ?_
    refine .gi 2 rfl ?_
    refine r_ret1 Tryz.func183 rfl rfl ?_
    exact Ret.mk ⟨(congrArg (Value.int .i64) (by first | rfl | exact congrArg (fun n : Nat => (n : Int)) hrel1.get.1 | (exfalso; omega))), hE0⟩
set_option maxRecDepth 20000 in
set_option maxHeartbeats 4000000 in
theorem get_c {w0 : World}  {v_g : Value} {lo_g hi_g : Nat} {g : List GN} (n : Int) (h_g : Gr 0 w0 lo_g hi_g v_g g) (hhi_g : hi_g ≤ w0.heap.size) (h_n : I64 n) (hgl : g.length ≤ 1000000) :
    Calls Tryz.prog 150 #[v_g, .int .i64 n] w0 (Ret fun rv w1 => (∃ (fb : Bool) (ve : Value), rv = .agg #[.bool fb, ve] ∧ fb = (nodeAt g n).1 ∧ Sl encE w1 (Iv lo_g hi_g) ve (nodeAt g n).2) ∧ Ext w0 w1) := by
  have hE0 : Ext w0 w0 := Mod.refl _ _
  refine calls_enter Tryz.func150 rfl Tryz.ntmps150 rfl ?_
  refine .go 2 rfl ?_
  refine .ac (.alloc ti238 fun w1 b1 hm1 hb1 hz1 hk1 => ?_)
  have f1 := h_g.ext hm1
  have hE1 := hE0.ext hm1
  have hs1 := hm1.size
  refine .go 5 rfl ?_
  refine .zb (.lt rfl rfl) fun b2 hb2 => ?_
  refine .go 1 rfl ?_
  cases b2
  case true =>
    replace hb2 := dt hb2
    refine .go 9 rfl ?_
    refine .z (.build (vs := #[]) (v := .agg #[.bool false, .slice none 0 0]) rfl (fun _ => by kernel_rfl)) ?_
    refine .ac (.store ti238 rfl rfl rfl rfl rfl hk1 (Nat.le_of_ble_eq_true rfl) fun w2 hm2 hz2 hk2 => ?_)
    replace hk2 : Bk w2 b1 [.bool false, .slice none 0 0] 238 := hk2
    have hE2 := Ext.thenG hE1 hm2 (by omega)
    have hs2 := hm2.size
    refine .gi 1 rfl ?_
    refine r_retC1 Tryz.func150 rfl rfl ti238 hk2.row rfl ?_
    exact Ret.mk ⟨⟨_, _, rfl, by rw [nodeAt_no (by omega)], by rw [nodeAt_no (by omega)]; exact Sl.nil⟩, hE2⟩
  replace hb2 := df hb2
  refine .go 2 rfl ?_
  refine .ac (.callF cl183 rfl (nodes_c (w0 := w1)   f1 (by omega)) ?_)
  rintro _ w2 ⟨rfl, hm2⟩
  have f2 := f1.ext hm2
  have f3 := hk1.ext hm2
  have hE2 := hE1.ext hm2
  have hs2 := hm2.size
  refine .zb (.ge rfl rfl) fun b3 hb3 => ?_
  refine .gi 2 rfl ?_
  cases b3
  case true =>
    replace hb3 := dt hb3
    refine .go 3 rfl ?_
    refine .z (.build (vs := #[]) (v := .agg #[.bool false, .slice none 0 0]) rfl (fun _ => by kernel_rfl)) ?_
    refine .ac (.store ti238 rfl rfl rfl rfl rfl f3 (Nat.le_of_ble_eq_true rfl) fun w3 hm3 hz2 hk2 => ?_)
    replace hk2 : Bk w3 b1 [.bool false, .slice none 0 0] 238 := hk2
    have hE3 := Ext.thenG hE2 hm3 (by omega)
    have hs3 := hm3.size
    refine .gi 1 rfl ?_
    refine r_retC1 Tryz.func150 rfl rfl ti238 hk2.row rfl ?_
    exact Ret.mk ⟨⟨_, _, rfl, by rw [nodeAt_no (by omega)], by rw [nodeAt_no (by omega)]; exact Sl.nil⟩, hE3⟩
  replace hb3 := df hb3
  have hgr1 := f2
  obtain ⟨b4, vn1, nds1, hv1, hN1, hrw1, hsl1, hrel1⟩ := Gr.pos f2 (by omega)
  refine .go 5 rfl ?_
  subst hv1
  have hnl1 := (All2.get hrel1).1
  refine .go 1 rfl ?_
  refine .z (.fieldAddr fl264_0 rfl) ?_
  refine .z (.load1 ti262 rfl (fun _ e => e ▸ (Rw.cell hrw1 0 _ rfl))) ?_
  obtain ⟨x1, b5, o1, hx1, hr1, hl1, hu1, hw1⟩ := Sl.at' (P := Tryz.prog) hsl1 Tryz.underlying262 ti238 encN_len (k := .i64) (n := n) ((n).toNat) (by omega) ao
  refine .go 1 rfl ?_
  refine .z (.indexAddr rfl rfl hr1) ?_
  refine .z (.loadN ti238 rfl (fun _ e => e ▸ hw1) rfl) ?_
  obtain ⟨gn1, hn1, hf1, hs_1⟩ := NRel.at hrel1 hx1
  refine .ac (.store ti238 rfl rfl rfl rfl rfl f3 (Nat.le_of_ble_eq_true rfl) fun w3 hm3 hz2 hk2 => ?_)
  replace hk2 : Bk w3 b1 [.bool x1.fin, x1.e.val] 238 := hk2
  have f8 := hs_1.keepG hm3 (by omega)
  have hE3 := Ext.thenG hE2 hm3 (by omega)
  have hs3 := hm3.size
  refine .gi 1 rfl ?_
  refine r_retC1 Tryz.func150 rfl rfl ti238 hk2.row rfl ?_
  have hna := nodeAt_yes (by omega) hn1
  exact Ret.mk ⟨⟨_, _, rfl, by rw [hna]; exact hf1, by rw [hna]; exact f8⟩, hE3⟩
set_option maxRecDepth 20000 in
set_option maxHeartbeats 4000000 in
theorem final_c {w0 : World}  {v_g : Value} {lo_g hi_g : Nat} {g : List GN} (n : Int) (h_g : Gr 0 w0 lo_g hi_g v_g g) (hhi_g : hi_g ≤ w0.heap.size) (h_n : I64 n) (hgl : g.length ≤ 1000000) :
    Calls Tryz.prog 144 #[v_g, .int .i64 n] w0 (Ret fun rv w1 => (∃ rb : Bool, rb = ((nodeAt g n).1) ∧ rv = .bool rb) ∧ Ext w0 w1) := by
  have hE0 : Ext w0 w0 := Mod.refl _ _
  refine calls_enter Tryz.func144 rfl Tryz.ntmps144 rfl ?_
  refine .go 8 rfl ?_
  refine .ac (.callF cl150 rfl (get_c (w0 := w0) (g := g) (n) h_g (by omega) oa ao) ?_)
  rintro _ w1 ⟨⟨fb1, ve1, rfl, hfb1, hs_1⟩, hm1⟩
  obtain ⟨ad1, cp1, hv1⟩ := hs_1.shape
  subst hv1
  have hE1 := hE0.ext hm1
  have hs1 := hm1.size
  have hle_1 := hs_1.le
  refine .z (.field (v := (.bool fb1 : Value)) rfl (fun _ => by kernel_rfl)) ?_
  refine .gi 2 rfl ?_
  refine r_ret1 Tryz.func144 rfl rfl ?_
  exact Ret.mk ⟨⟨_, (by first | assumption | exact hfb1 | (exfalso; omega)), rfl⟩, hE1⟩
set_option maxRecDepth 20000 in
set_option maxHeartbeats 4000000 in
theorem edges_c {w0 : World}  {v_g : Value} {lo_g hi_g : Nat} {g : List GN} (n : Int) (h_g : Gr 0 w0 lo_g hi_g v_g g) (hhi_g : hi_g ≤ w0.heap.size) (h_n : I64 n) (hgl : g.length ≤ 1000000) (hel : ∀ x ∈ g, x.2.length ≤ 1000000) :
    Calls Tryz.prog 145 #[v_g, .int .i64 n] w0 (Ret fun rv w1 => (∃ gr, Acc encE 233 2 w1 gr rv ((nodeAt g n).2) ∧ (gr = 0 ∨ w0.heap.size < gr)) ∧ Ext w0 w1) := by
  have hE0 : Ext w0 w0 := Mod.refl _ _
  refine calls_enter Tryz.func145 rfl Tryz.ntmps145 rfl ?_
  refine .go 8 rfl ?_
  refine .ac (.callF cl150 rfl (get_c (w0 := w0) (g := g) (n) h_g (by omega) oa ao) ?_)
  rintro _ w1 ⟨⟨fb1, ve1, rfl, hfb1, hs_1⟩, hm1⟩
  obtain ⟨ad1, cp1, hv1⟩ := hs_1.shape
  subst hv1
  have hE1 := hE0.ext hm1
  have hs1 := hm1.size
  have hle_1 := hs_1.le
  refine .z (.field (v := (.slice ad1 (nodeAt g n).2.length cp1)) rfl (fun _ => by kernel_rfl)) ?_
  have hnl := nodeAt_len hel n
  refine .ac (.callF cl179 rfl (cloneE_c (w0 := w1) (s := (nodeAt g n).2)  ((hs_1).iv (Nat.zero_le _) (by omega)) ao) ?_)
  rintro v1 w2 ⟨⟨gr1, h1, hg1⟩, hm2⟩
  have hE2 := hE1.ext hm2
  have hs2 := hm2.size
  have hle_2 := h1.le
  have hlt_1 := h1.lt
  refine .gi 2 rfl ?_
  refine r_ret1 Tryz.func145 rfl rfl ?_
  exact Ret.mk ⟨⟨_, Acc.cast h1 (by rfl), by omega⟩, hE2⟩
end Go.Proofs
namespace Go.Proofs
open Go.Ik Go.Ml
def Tryz.joinL_ren : Go.Shelf.Ren := ⟨fun | 156 => 208 | 165 => 216 | 166 => 217 | 169 => 218 | 240 => 221 | 241 => 222 | 276 => 224 | 277 => 225 | n => n, fun | 31 => 23 | 9 => 9 | 3 => 3 | 4 => 4 | 0 => 0 | 20 => 20 | 72 => 305 | 76 => 309 | 70 => 303 | 37 => 120 | 75 => 308 | 127 => 314 | 164 => 316 | 5 => 5 | 80 => 311 | n => n, fun | n => n⟩
theorem Tryz.joinL : Go.Proofs.Lays.n156 Tryz.prog Tryz.joinL_ren := {
  mixed := by kernel_rfl,
  f156 := Tryz.func208.trans (congrArg some (by kernel_rfl)),
  f165 := Tryz.func216.trans (congrArg some (by kernel_rfl)),
  f166 := Tryz.func217.trans (congrArg some (by kernel_rfl)),
  f169 := Tryz.func218.trans (congrArg some (by kernel_rfl)),
  f240 := Tryz.func221.trans (congrArg some (by kernel_rfl)),
  f241 := Tryz.func222.trans (congrArg some (by kernel_rfl)),
  f276 := Tryz.func224.trans (congrArg some (by kernel_rfl)),
  f277 := Tryz.func225.trans (congrArg some (by kernel_rfl)),
  t0 := Tryz.underlying0,
  a0 := Tryz.isAgg0,
  z0 := Tryz.sizeOf0,
  v0 := Tryz.zeroValue0,
  t3 := Tryz.underlying3,
  a3 := Tryz.isAgg3,
  z3 := Tryz.sizeOf3,
  v3 := Tryz.zeroValue3,
  t4 := Tryz.underlying4,
  a4 := Tryz.isAgg4,
  z4 := Tryz.sizeOf4,
  v4 := Tryz.zeroValue4,
  t9 := Tryz.underlying9,
  a9 := Tryz.isAgg9,
  z9 := Tryz.sizeOf9,
  v9 := Tryz.zeroValue9,
  t20 := Tryz.underlying20,
  a20 := Tryz.isAgg20,
  z20 := Tryz.sizeOf20,
  v20 := Tryz.zeroValue20,
  t31 := Tryz.underlying23,
  a31 := Tryz.isAgg23,
  z31 := Tryz.sizeOf23,
  v31 := Tryz.zeroValue23,
  t37 := Tryz.underlying120,
  a37 := Tryz.isAgg120,
  z37 := Tryz.sizeOf120,
  v37 := Tryz.zeroValue120,
  t70 := Tryz.underlying303,
  a70 := Tryz.isAgg303,
  z70 := Tryz.sizeOf303,
  v70 := Tryz.zeroValue303,
  t72 := Tryz.underlying305,
  a72 := Tryz.isAgg305,
  z72 := Tryz.sizeOf305,
  v72 := Tryz.zeroValue305,
  t75 := Tryz.underlying308,
  a75 := Tryz.isAgg308,
  z75 := Tryz.sizeOf308,
  v75 := Tryz.zeroValue308,
  t76 := Tryz.underlying309,
  a76 := Tryz.isAgg309,
  z76 := Tryz.sizeOf309,
  v76 := Tryz.zeroValue309,
  t127 := Tryz.underlying314,
  a127 := Tryz.isAgg314,
  z127 := Tryz.sizeOf314,
  v127 := Tryz.zeroValue314,
  t164 := Tryz.underlying316,
  a164 := Tryz.isAgg316,
  z164 := Tryz.sizeOf316,
  v164 := Tryz.zeroValue316 }
theorem joinX : Go.Proofs.Builder.Extra Tryz.prog Tryz.joinL_ren := {
  sizeBuilder := by kernel_rfl,
  liesBuilder := by kernel_rfl,
  t5 := Tryz.underlying5,
  a5 := Tryz.isAgg5,
  z5 := Tryz.sizeOf5,
  v5 := Tryz.zeroValue5,
  infoByte := by kernel_rfl,
  cellsByte := by kernel_rfl,
  sizeByte := by kernel_rfl,
  neB5 := by decide }
end Go.Proofs
namespace Go.Proofs
open Go.Ik Go.Ml
theorem q194_1 {p : Prop} (h : p := by first | exact ⟨by rw [hst2]; exact hr1.1.more _, fun t ht => hr1.2.1 t (List.mem_of_mem_drop ht), fun t ht => hr1.2.2 t (List.mem_of_mem_drop ht)⟩ | (exfalso; omega)) : p := h
theorem q194_2 {p : Prop} (h : p := by first | rw [show s ++ (rests, []) :: (xs ++ xs2) = (s ++ (rests, []) :: xs) ++ xs2 by simp, ← hqe]; exact hnm | (exfalso; omega)) : p := h
theorem q194_3 {p : Prop} (h : p := by decide) : p := h
theorem q194_4 {p : Prop} (h : p := by omega) : p := h
theorem q194_5 {p : Prop} (h : p := by first | exact EInv.cast hEInx (by rw [hqe]; simp) hst2.symm | (exfalso; omega)) : p := h
theorem q194_6 {p : Prop} (h : p := by first | exact .inr ⟨_, by assumption, by assumption⟩ | exact .inl (by omega)) : p := h
theorem q194_7 {p : Prop} (h : p := by first | assumption | omega | (simp; done)) : p := h
theorem q194_8 {p : Prop} (h : p := by unfold maxLen; omega) : p := h
set_option maxRecDepth 20000 in
set_option maxHeartbeats 8000000 in
theorem node_c : ∀ (f : Nat) {w0 : World} {F G : Nat → Prop} {bB : Nat} {v_r : Value} {rests : List Str} {nds : List RNode} {s : GS} (hB : (bldR 283 264 238 bB s nds).p F w0) (hF : ∀ b, F b → b < w0.heap.size) (hr : Sl encS w0 G v_r rests) (hG : ∀ b, G b → ¬ F b) (hGl : ∀ b, G b → b < w0.heap.size) (hlen : nds.length = s.length) (hd : Deep f rests) (hg : GoodR rests) (hne : rests ≠ []) (hnd : (names s).Nodup) (hnok : NamesOk s) (hsz : s.length + 1 + sumLen rests ≤ 1000000) (hrl : rests.length ≤ 1000),
    Calls Tryz.prog 194 #[ptr bB 0, v_r] w0 (Ret fun rv w1 => rv = .int .i64 ((addM (f + 1) s rests).2 : Int) ∧ Mod F w0 w1 ∧ ∃ t xs, (addM (f + 1) s rests).1 = s ++ xs ∧ ∃ F2, (boxR [bldR 283 264 238 bB (s ++ xs) (nds ++ t), nrR t xs]).p F2 w1 ∧ ∀ b, F2 b → b < w1.heap.size ∧ (F b ∨ w0.heap.size ≤ b)) := by
  intro f
  induction f using Nat.strongRecOn with
  | _ f ih0 =>
  intro w0 F G bB v_r rests nds s hB hF hr hG hGl hlen hd hg hne hnd hnok hsz hrl
  have hS00 := St.start1 hB (fun b hb => ⟨hF b hb, id⟩) (fun _ h => h.elim)
  have hpos := List.length_pos_iff.2 hne
  have hle1 := hr.le
  have hdr := dropE_good hg
  have hsd := sumLen_dropE rests
  have hdl := dropE_len rests
  obtain ⟨⟨bG1, bM1, vN1⟩, hS1⟩ := hS00.exo (i := 0) rfl
  change St (fun _ => False) F w0 w0 [boxR [bkR bB [ptr bG1 0, .map (some bM1)] 283, bkR bG1 [vN1] 264, mapR strV intV bM1 (mapK s), accR encN 238 2 vN1 nds]] at hS1
  have hS2 := (hS1.un 0 rfl [] (by rfl) (by decide)).n4
  refine calls_enter Tryz.func194 rfl Tryz.ntmps194 rfl ?_
  refine .go 7 rfl ?_
  refine .ac (.callF cl208 rfl (join_own Tryz.joinL joinX (w0 := w0) hr hne hGl q194_4) ?_)
  rintro _ w1 ⟨rfl, hm1⟩
  have hS3 := hS2.ext hm1
  refine .go 7 rfl ?_
  refine .z (.fieldAddr fl283_1 rfl) ?_
  have f1 := hS3.bk (i := 0) rfl
  refine .z (.l1 ti281 f1) ?_
  have f2 := hS3.map (i := 2) rfl
  refine .go 1 rfl ?_
  cases hfi : s.findIdx? (fun x => x.1 == rests) with
  | none =>
    have hasc : asc (mapK s) (joinS rests) = none := by rw [asc_mapK hg.noff hne s hnok, hfi]; rfl
    refine .z (.lookupMiss (key := strV) (val := intV) (keyOk_str Tryz.underlying9) Tryz.underlying281 Tryz.zeroValue3 rfl rfl (fun _ e => e ▸ f2) hasc) ?_
    refine .go 16 rfl ?_
    refine .z (.fieldAddr fl283_0 rfl) ?_
    refine .z (.l1 ti99 f1) ?_
    refine .go 1 rfl ?_
    refine .z (.fieldAddr fl264_0 rfl) ?_
    have f3 := hS3.bk (i := 1) rfl
    refine .z (.l1 ti262 f3) ?_
    obtain ⟨g1, f4, hl1, k1⟩ := hS3.accK (i := 3) rfl
    refine .z (.lenSl Tryz.underlying262 (f4.sl) rfl) ?_
    refine .go 6 rfl ?_
    refine .z (.fieldAddr fl283_1 rfl) ?_
    refine .z (.l1 ti281 f1) ?_
    refine .go 2 rfl ?_
    refine .ac (.mapNew (key := strV) (val := intV) (u := ((nds.length : Nat) : Int)) (keyOk_str Tryz.underlying9) Tryz.underlying281 rfl rfl rfl f2 hasc fun w2 hm2 hz1 hk1 => ?_)
    replace hk1 : MapO strV intV w2 bM1 (mapK (s ++ [(rests, [])])) := mapO_cast hk1 (by rw [mapK_snoc, hlen])
    have hS4 := (hS3.mapK (i := 2) rfl hm2 hk1).n4
    obtain ⟨g2, f5, hl2, k2⟩ := hS4.accK (i := 3) rfl
    refine .gi 2 rfl ?_
    refine r_draw1 (fun i => Nat.beq i 12 || Nat.beq i 13 || Nat.beq i 16) 16 (fun w' => Mod (Mg g2) w2 w') mixed (by kernel_rfl) fun w3 hm3 => ?_
    have hS5 := hS4.ext hm3
    have hCw3 : Mod (Mg g2) w2 w3 := Mod.ofExt hm3
    refine ⟨hCw3, ?_⟩
    rw [show List.range' 0 (Array.size _) = [0, 1, 2, 3, 4, 5, 6, 7, 8, 9, 10, 11, 12, 13, 14, 15, 16] from rfl]
    refine .gd 2 rfl ?_
    refine .z rfl (.fieldAddr fl283_0 rfl) ?_
    have f6 := hS4.bk (i := 0) rfl
    refine .z rfl (.load1 ti99 rfl (fun _ hc => (f6.cell 0 _ rfl).keepG hc (hS4.ne (i := 3) (j := 0) rfl rfl q194_3 f5))) ?_
    refine .gd 2 rfl ?_
    refine .z rfl (.fieldAddr fl283_0 rfl) ?_
    refine .z rfl (.load1 ti99 rfl (fun _ hc => (f6.cell 0 _ rfl).keepG hc (hS4.ne (i := 3) (j := 0) rfl rfl q194_3 f5))) ?_
    refine .gd 1 rfl ?_
    refine .z rfl (.fieldAddr fl264_0 rfl) ?_
    have f7 := hS4.bk (i := 1) rfl
    refine .z rfl (.load1 ti262 rfl (fun _ hc => (f7.cell 0 _ rfl).keepG hc (hS4.ne (i := 3) (j := 1) rfl rfl q194_3 f5))) ?_
    refine .z rfl (.build (vs := #[]) (v := .agg #[.bool false, .slice none 0 0]) rfl (fun _ => by kernel_rfl)) ?_
    refine .ac rfl (.buildSlice [(.agg #[.bool false, .slice none 0 0] : Value)] Tryz.underlying262 ti238 rfl rfl rfl q194_3 fun w4 b1 hm4 hb1 hz2 hk2 => ?_)
    have hl3 := Sl.of_blk (enc := encN) hk2 ([(RNode.mk false (SH.mk none 0 0))] : List RNode) 1 rfl rfl q194_8
    have hS7 := (hS5.newSlB hm4 hb1 hz2 hl3).n5
    have hCw4 := hCw3.ext hm4
    refine ⟨.inr hCw4, ?_⟩
    obtain ⟨g4, f8, hl4, k3⟩ := hS7.accK (i := 3) rfl
    have he1 := Acc.uniq f5 f8
    subst he1
    have f9 := hS7.sl (i := 4) (k := 0) rfl rfl
    refine .ac rfl (.append f8 Tryz.underlying262 ti238 rfl encN_len encN_one rfl rfl (f9) ol ox fun v1 g3 w5 ha1 hm5 hg1 hz3 => ?_)
    have hS8 := (k3 _ _ _ _ hm5 ha1 hg1).n5
    have hCw5 := hCw4.trans hm5
    refine ⟨.inr hCw5, ?_⟩
    clear hg1
    refine .gd 1 rfl ?_
    refine .z rfl (.fieldAddr fl264_0 rfl) ?_
    obtain ⟨g5, f10, hl5, k4⟩ := hS8.accK (i := 3) rfl
    obtain ⟨ad1, cp1, hv1⟩ := f10.shape
    subst hv1
    have f11 := hS8.bk (i := 1) rfl
    refine .ac rfl (.store ti262 rfl rfl rfl rfl rfl f11 (Nat.le_of_ble_eq_true rfl) fun w6 hm6 hz4 hk3 => ?_)
    have hS9 := (hS8.bkK (cs' := [(.slice ad1 ((nds ++ [(RNode.mk false (SH.mk none 0 0))])).length cp1)]) (i := 1) rfl hm6 hk3).n5
    refine ⟨.inl rfl, ?_⟩
    refine .nil ?_
    have f12 := hS9.out hr hG
    refine .go 3 rfl ?_
    refine .z (.lenSl Tryz.underlying23 (f12) rfl) ?_
    refine .zb (.gt rfl rfl) fun b2 hb2 => ?_
    obtain rfl : b2 = true := hb2.trans (by exact decide_eq_true (by have := List.length_pos_iff.2 hne; omega))
    obtain ⟨x1, b3, o1, hx1, hr1, hl6, hw1⟩ := Sl.atF (P := Tryz.prog) f12 Tryz.underlying23 ti9 encS_len (k := .i64) (n := 0) (0) q194_4 ao
    refine .go 2 rfl ?_
    refine .z (.indexAddr rfl rfl hr1) ?_
    refine .z (.lr ti9 hw1) ?_
    refine .zb (.eqS rfl rfl) fun b4 hb3 => ?_
    refine .gi 8 rfl ?_
    cases b4
    case true =>
      replace hb3 := eq_of_beq hb3.symm
      obtain ⟨v2, hr2, hl7⟩ := Sl.part (P := Tryz.prog) hr Tryz.underlying23 ti9 encS_len (1) (rests.length) (.inr ⟨.i64, 1, rfl, by omega⟩) (.inl ⟨rfl, rfl⟩) q194_4 ao
      replace hl7 : Sl encS w0 G v2 (rests.drop 1) := by simpa using hl7
      refine .go 3 rfl ?_
      refine .z (.sliceV rfl rfl rfl rfl hr2) ?_
      have hdre := dropE_nil hx1 (by assumption)
      have hS10 := (hS9.b4 [4] 0 1 2 3 (by rfl) q194_3).n2
      have hS11 : St (fun _ => False) F w0 w6 [slR encN [((.slice (some ⟨b1, 0, none⟩) 1 1), [(RNode.mk false (SH.mk none 0 0))])], bldR 283 264 238 bB (s ++ (rests, []) :: []) (nds ++ RNode.mk false (SH.mk none 0 0) :: [])] := hS10.exi (bG1, bM1, (.slice ad1 ((nds ++ [(RNode.mk false (SH.mk none 0 0))])).length cp1)) (i := 1) rfl
      have hS12 : St (fun _ => False) F w0 w6 [slR encN [((.slice (some ⟨b1, 0, none⟩) 1 1), [(RNode.mk false (SH.mk none 0 0))])], bldR 283 264 238 bB (s ++ (rests, []) :: []) (nds ++ RNode.mk false (SH.mk none 0 0) :: []), nrR [] []] := hS11.new (Mod.refl _ _) (F := fun _ => False) (All2.nil : NR _ _ [] []) (fun _ h => h.elim)
      have hS14 : St (fun _ => False) F w0 w6 [slR encN [((.slice (some ⟨b1, 0, none⟩) 1 1), [(RNode.mk false (SH.mk none 0 0))])], bldR 283 264 238 bB (s ++ (rests, []) :: []) (nds ++ RNode.mk false (SH.mk none 0 0) :: []), nrR [] [], accR encE 233 2 (.slice none 0 0) []] := hS12.newAcc (Mod.refl _ _) Acc.nil (.inl rfl)
      have hS15 := (hS14.sel [1, 2, 3] (by rfl) q194_3).n3
      refine .gi 8 rfl ?_
      refine r_loop (I := fun m E W => ∃ (v_r1 : Value) (r1 : List Str) (v_ES : Value) (ES : List Ed) (xs : GS) (tc : List RNode), E = [(0, ptr bB 0), (1, v_r1), (8, .int .i64 (((nds.length : Nat) : Int))), (9, .bool true), (10, v_ES)] ∧ m = r1.length ∧ St (fun _ => False) F w0 W [bldR 283 264 238 bB (s ++ (rests, []) :: xs) (nds ++ RNode.mk false (SH.mk none 0 0) :: tc), nrR tc xs, accR encE 233 2 v_ES ES] ∧ Sl encS w0 G v_r1 r1 ∧ (EInv f (s ++ [(rests, [])]) (groups (dropE rests)) (s ++ (rests, []) :: xs) ES r1) ∧ (GoodR r1 ∧ (∀ t ∈ r1, t ≠ []) ∧ Deep f r1) ∧ (NamesOk (s ++ (rests, []) :: xs) ∧ (names (s ++ (rests, []) :: xs)).Nodup) ∧ (s.length + 1 + xs.length + sumLen r1 ≤ 1000000) ∧ (ES.length + r1.length ≤ 1000) ∧ (tc.length = xs.length)) ?_ ?_
      · refine ⟨_, _, ⟨(v2 : Value), ((rests.drop 1) : List Str), (.slice none 0 0 : Value), ([] : List Ed), ([] : GS), ([] : List RNode), rfl, rfl, hS15, hl7, (by first | (rw [hdre.1]; exact EInv.start f _ _)), (by rw [← hdre.1]; exact ⟨hdr.1, hdr.2, fun t ht => hd t (dropE_mem ht)⟩), (by exact names_put hfi hnd hnok hne hg.noff), (by rw [← hdre.1]; simp only [List.length_nil]; omega), (by rw [← hdre.1]; simp only [List.length_nil]; omega), (by rfl)⟩, ⟨rfl, rfl, rfl, rfl, rfl, trivial⟩⟩
      · rintro _ _ w7 ⟨v_r1, r1, v_ES, ES, xs, tc, rfl, rfl, hS13, ha2, hEI, hr1, hnd1, hs1, hel, htc⟩ ih1
        have f13 := hS13.out ha2 hG
        refine .go 4 rfl ?_
        refine .z (.lenSl Tryz.underlying23 (f13) rfl) ?_
        refine .zb (.gt rfl rfl) fun b5 hb4 => ?_
        refine .gi 1 rfl ?_
        cases b5
        case true =>
          replace hb4 := dt hb4
          obtain ⟨x2, b6, o2, hx2, hr3, hl8, hw2⟩ := Sl.atF (P := Tryz.prog) f13 Tryz.underlying23 ti9 encS_len (k := .i64) (n := 0) (0) q194_4 ao
          refine .go 6 rfl ?_
          refine .z (.indexAddr rfl rfl hr3) ?_
          refine .z (.lr ti9 hw2) ?_
          have hxm := List.mem_of_getElem? hx2
          have hxg := hr1.1.fine x2 hxm
          have hxn : x2 ≠ [] := hr1.2.1 x2 hxm
          obtain ⟨f2, rfl⟩ := deep_succ hr1.2.2 hxm hxn
          have hwl := pfx_len hxn
          have hwd := wdN_le x2 hxn
          have hxl := sum_mem hxm
          have hdn := hdN_le x2
          refine .ac (.callF cl209 rfl (first_c (w0 := w7)  x2 q194_7 (by assumption)) ?_)
          rintro _ w8 ⟨_, _, rfl, rfl, rfl, hm7⟩
          have hS16 := hS13.ext hm7
          have := Ml.wdN_le x2
          have := Ml.hdN_le x2
          have hS18 : St (fun _ => False) F w0 w8 [bldR 283 264 238 bB (s ++ (rests, []) :: xs) (nds ++ RNode.mk false (SH.mk none 0 0) :: tc), nrR tc xs, accR encE 233 2 v_ES ES, accR encS 9 1 (.slice none 0 0) []] := hS16.newAcc (Mod.refl _ _) Acc.nil (.inl rfl)
          refine .gi 16 rfl ?_
          refine r_loop (I := fun m E W => ∃ (k : Nat) (v_b2 : Value) (b2 : List Str), E = [(0, ptr bB 0), (1, v_r1), (8, .int .i64 (((nds.length : Nat) : Int))), (9, .bool true), (10, v_ES), (11, .int .i32 (((Ml.hdN x2 : Int)))), (12, .int .i64 ((((Ml.wdN x2 : Nat) : Int)))), (13, .int .i64 (((k : Nat) : Int))), (14, v_b2)] ∧ m = r1.length - k ∧ St (fun _ => False) F w0 W [bldR 283 264 238 bB (s ++ (rests, []) :: xs) (nds ++ RNode.mk false (SH.mk none 0 0) :: tc), nrR tc xs, accR encE 233 2 v_ES ES, accR encS 9 1 v_b2 b2] ∧ (SpanInv (pfx x2) r1 k b2) ∧ (b2.length ≤ k) ∧ (k ≤ r1.length)) ?_ ?_
          · refine ⟨_, _, ⟨(0 : Nat), (.slice none 0 0 : Value), ([] : List Str), rfl, rfl, hS18, (by exact SpanInv.start _ _), (by exact Nat.zero_le _), q194_4⟩, ⟨rfl, rfl, rfl, rfl, rfl, rfl, rfl, rfl, rfl, trivial⟩⟩
          · rintro _ _ w9 ⟨k, v_b2, b2, rfl, rfl, hS17, hsp, hbl, hkl⟩ ih2
            refine .gi 2 rfl ?_
            refine r_draw1 (fun i => Nat.beq i 14) 16 (fun w' => Mod (Mg 0) w9 w') mixed (by kernel_rfl) fun w10 hm8 => ?_
            have hS19 := hS17.ext hm8
            have hCw10 : Mod (Mg 0) w9 w10 := Mod.ofExt hm8
            refine ⟨hCw10, ?_⟩
            rw [show List.range' 0 (Array.size _) = [0, 1, 2, 3, 4, 5, 6, 7, 8, 9, 10, 11, 12, 13, 14, 15] from rfl]
            have f14 := hS17.out ha2 hG
            refine .gd 2 rfl ?_
            refine .z rfl (.lenSl Tryz.underlying23 (f14) rfl) ?_
            refine .zb rfl (.lt rfl rfl) fun b7 hb5 => ?_
            refine .gd 1 rfl ?_
            cases b7
            case true =>
              replace hb5 := dt hb5
              obtain ⟨x3, b8, o3, hx3, hr4, hl9, hw3⟩ := Sl.atF (P := Tryz.prog) f14 Tryz.underlying23 ti9 encS_len (k := .i64) (n := ((k : Nat) : Int)) (k) q194_4 ao
              refine .gd 2 rfl ?_
              refine .z rfl (.indexAddr rfl rfl hr4) ?_
              refine .z rfl (.load1 ti9 rfl (fun _ hc => hw3.keepG hc (Nat.succ_ne_zero _))) ?_
              have hx3l := sum_mem (List.mem_of_getElem? hx3)
              obtain ⟨x4, b9, o4, hx4, hr5, hl10, hw4⟩ := Sl.atF (P := Tryz.prog) f14 Tryz.underlying23 ti9 encS_len (k := .i64) (n := 0) (0) q194_4 ao
              obtain rfl : x2 = x4 := Option.some.inj (hx2.symm.trans hx4)
              refine .gd 1 rfl ?_
              refine .z rfl (.indexAddr rfl rfl hr5) ?_
              refine .z rfl (.load1 ti9 rfl (fun _ hc => hw4.keepG hc (Nat.succ_ne_zero _))) ?_
              refine .gd 1 rfl ?_
              refine .z rfl (.sliceS_hi (Ml.wdN x2) Tryz.underlying9 rfl rfl q194_4 ao) ?_
              refine .ac rfl (.callF cl210 rfl (shp_c (w0 := w10)  x3 ((x2.take (Ml.wdN x2))) ) ?_)
              rintro _ w11 ⟨⟨b10, hb6, rfl⟩, hm9⟩
              have hS20 := hS19.ext hm9
              have hCw11 := hCw10.ext hm9
              refine ⟨.inr hCw11, ?_⟩
              refine .gd 1 rfl ?_
              refine .nil ?_
              cases b10
              case true =>
                replace hb6 := hb6.symm
                have f15 := hS20.out ha2 hG
                obtain ⟨x5, b11, o5, hx5, hr6, hl11, hw5⟩ := Sl.atF (P := Tryz.prog) f15 Tryz.underlying23 ti9 encS_len (k := .i64) (n := ((k : Nat) : Int)) (k) q194_4 ao
                obtain rfl : x3 = x5 := Option.some.inj (hx3.symm.trans hx5)
                refine .go 8 rfl ?_
                refine .z (.indexAddr rfl rfl hr6) ?_
                refine .z (.lr ti9 hw5) ?_
                have hpl : wdN x2 ≤ x3.length := hp_le (p := x2.take (wdN x2)) (by assumption) hwl
                refine .go 1 rfl ?_
                refine .z (.sliceS_lo (Ml.wdN x2) Tryz.underlying9 rfl rfl q194_4 ao) ?_
                refine .ac (.buildSlice [strV ((x3.drop (Ml.wdN x2)))] Tryz.underlying23 ti9 rfl rfl rfl q194_3 fun w12 b12 hm10 hb7 hz5 hk4 => ?_)
                have hl12 := Sl.of_blk (enc := encS) hk4 ([(x3.drop (Ml.wdN x2))] : List Str) 1 rfl rfl q194_8
                have hS22 := (hS20.newSlB hm10 hb7 hz5 hl12).n5
                obtain ⟨g7, f16, hl13, k5⟩ := hS22.accK (i := 3) rfl
                have f17 := hS22.sl (i := 4) (k := 0) rfl rfl
                refine .ac (.append f16 Tryz.underlying23 ti9 rfl encS_len encS_one rfl rfl (f17) ol ox fun v3 g6 w13 ha3 hm11 hg2 hz6 => ?_)
                have hS23 := (k5 _ _ _ _ hm11 ha3 hg2).n5
                clear hg2
                refine .go 4 rfl ?_
                refine .z (.addI (((k + 1 : Nat) : Int)) rfl rfl q194_4) ?_
                have hS24 := (hS23.sel [0, 1, 2, 3] (by rfl) q194_3).n4
                refine .gi 3 rfl ?_
                exact (ih2 _ _ _ ⟨(k + 1 : Nat), (v3 : Value), ((b2 ++ [(x3.drop (Ml.wdN x2))]) : List Str), rfl, rfl, hS24, (by first | exact hsp.nxt hwl hx3 (by assumption) | (exfalso; omega)), (by first | simp only [List.length_append, List.length_cons, List.length_nil]; omega | (exfalso; omega)), (by first | omega | (exfalso; omega))⟩ q194_4).sub ⟨rfl, rfl, rfl, rfl, rfl, rfl, rfl, rfl, rfl, trivial⟩
              replace hb6 := hb6.symm
              obtain ⟨v3, hr6, hl11⟩ := Sl.part (P := Tryz.prog) ha2 Tryz.underlying23 ti9 encS_len (k) (r1.length) (.inr ⟨.i64, ((k : Nat) : Int), rfl, by omega⟩) (.inl ⟨rfl, rfl⟩) q194_4 ao
              replace hl11 : Sl encS w0 G v3 (r1.drop k) := by simpa using hl11
              refine .go 6 rfl ?_
              refine .z (.sliceV rfl rfl rfl rfl hr6) ?_
              obtain ⟨hst, hst2⟩ := hsp.fin q194_6
              have hsf := strip_facts hx2 hr1
              refine .go 7 rfl ?_
              subst hst
              have hEInx := hEI.next2 hx2
              have hS21 := (hS20.freeze (i := 3) rfl).n4
              have hnm := addM_names hsf.2.2.1 hsf.1 hsf.2.1 hnd1.2 hnd1.1
              obtain ⟨Fb, Gb, hAb, hBl, hGF, hFb, hGb, hkb⟩ := hS21.act2 (i := 0) (j := 3) rfl rfl q194_3
              refine .ac (.callF cl194 rfl (ih0 f2 q194_4 hAb (fun b hb => (hFb b hb).2) (slR_no hBl) hGF hGb (by simp only [List.length_append, List.length_cons]; omega) hsf.2.2.1 hsf.1 hsf.2.1 hnd1.2 hnd1.1 (by simp only [List.length_append, List.length_cons]; omega) q194_4) ?_)
              rintro _ w12 ⟨rfl, hm10, t2, xs2, hqe, F2b, hB2, hF2b⟩
              have hS22 : St (fun _ => False) F w0 w12 [boxR [bldR 283 264 238 bB ((s ++ (rests, []) :: xs) ++ xs2) ((nds ++ RNode.mk false (SH.mk none 0 0) :: tc) ++ t2), nrR t2 xs2], nrR tc xs, accR encE 233 2 v_ES ES, slR encS [(v_b2, (stripP (pfx x2) r1))]] := hkb _ _ _ hm10 hB2 hF2b
              have ht2 := nr_len hB2
              clear hAb hBl hGF hFb hGb hkb hB2 hF2b
              have hS23 := (hS22.un 0 rfl [1, 2, 3] (by rfl) q194_3).n5
              have hS24 := (hS23.b2 [1, 2, 3] 0 4 (by rfl) q194_3).n4
              have hS25 := (hS24.ty (nrR (tc ++ t2) (xs ++ xs2)) 3 rfl (fun F_ h_ => nr_app h_)).n4
              have hS26 := (hS25.ty (bldR 283 264 238 bB (s ++ (rests, []) :: (xs ++ xs2)) (nds ++ RNode.mk false (SH.mk none 0 0) :: (tc ++ t2))) 2 rfl (fun F_ h_ => by simpa only [List.append_assoc, List.cons_append] using h_)).n4
              have hal := addM_len (f2 + 1) (s ++ (rests, []) :: xs) (stripP (pfx x2) r1) hsf.1
              rw [hqe] at hal
              simp only [List.length_append, List.length_cons] at hal
              have hidx : (addM (f2 + 1) (s ++ (rests, []) :: xs) (stripP (pfx x2) r1)).2 < ((s ++ (rests, []) :: xs) ++ xs2).length := by rw [← hqe]; exact addM_lt hsf.2.2.1 hsf.1 hsf.2.1 hnd1.2
              simp only [List.length_append, List.length_cons] at hidx
              refine .z (.build (vs := #[(0, (.int .i32 (((Ml.hdN x2 : Int))) : Value)), (1, (.int .i64 ((((addM (f2 + 1) (s ++ (rests, []) :: xs) (stripP (pfx x2) r1)).2 : Nat) : Int)) : Value))]) (v := .agg #[.int .i32 (((Ml.hdN x2 : Int))), .int .i64 ((((addM (f2 + 1) (s ++ (rests, []) :: xs) (stripP (pfx x2) r1)).2 : Nat) : Int))]) rfl (fun _ => by kernel_rfl)) ?_
              refine .ac (.buildSlice [(.agg #[.int .i32 (((Ml.hdN x2 : Int))), .int .i64 ((((addM (f2 + 1) (s ++ (rests, []) :: xs) (stripP (pfx x2) r1)).2 : Nat) : Int))] : Value)] Tryz.underlying219 ti233 rfl rfl rfl q194_3 fun w13 b11 hm11 hb7 hz5 hk4 => ?_)
              have hl12 := Sl.of_blk (enc := encE) hk4 ([(Ed.mk (((Ml.hdN x2 : Int))) ((((addM (f2 + 1) (s ++ (rests, []) :: xs) (stripP (pfx x2) r1)).2 : Nat) : Int)))] : List Ed) 1 rfl rfl q194_8
              have hS28 := (hS26.newSlB hm11 hb7 hz5 hl12).n5
              obtain ⟨g7, f15, hl13, k5⟩ := hS28.accK (i := 0) rfl
              have f16 := hS28.sl (i := 4) (k := 0) rfl rfl
              refine .ac (.append f15 Tryz.underlying219 ti233 rfl encE_len encE_one rfl rfl (f16) ol ox fun v4 g6 w14 ha3 hm12 hg2 hz6 => ?_)
              have hS29 := (k5 _ _ _ _ hm12 ha3 hg2).n5
              clear hg2
              have hS30 := (hS29.sel [2, 3, 0] (by rfl) q194_3).n3
              refine .gi 3 rfl ?_
              exact (ih1 _ _ _ ⟨(v3 : Value), ((r1.drop k) : List Str), (v4 : Value), ((ES ++ [(Ed.mk (((Ml.hdN x2 : Int))) ((((addM (f2 + 1) (s ++ (rests, []) :: xs) (stripP (pfx x2) r1)).2 : Nat) : Int)))]) : List Ed), ((xs ++ xs2) : GS), ((tc ++ t2) : List RNode), rfl, rfl, hS30, hl11, q194_5, q194_1, q194_2, (by first | rw [hst2]; simp only [List.length_append]; omega | (exfalso; omega)), (by first | rw [hst2]; simp only [List.length_append, List.length_cons, List.length_nil]; omega | (exfalso; omega)), (by first | simp only [List.length_append]; omega | (exfalso; omega))⟩ (by rw [hst2]; omega)).sub ⟨rfl, rfl, rfl, rfl, rfl, trivial⟩
            replace hb5 := df hb5
            refine .gd 11 rfl ?_
            refine .nil ?_
            obtain ⟨v3, hr4, hl9⟩ := Sl.part (P := Tryz.prog) ha2 Tryz.underlying23 ti9 encS_len (k) (r1.length) (.inr ⟨.i64, ((k : Nat) : Int), rfl, by omega⟩) (.inl ⟨rfl, rfl⟩) q194_4 ao
            replace hl9 : Sl encS w0 G v3 (r1.drop k) := by simpa using hl9
            refine .go 6 rfl ?_
            refine .z (.sliceV rfl rfl rfl rfl hr4) ?_
            obtain ⟨hst, hst2⟩ := hsp.fin q194_6
            have hsf := strip_facts hx2 hr1
            refine .go 7 rfl ?_
            subst hst
            have hEInx := hEI.next2 hx2
            have hS20 := (hS19.freeze (i := 3) rfl).n4
            have hnm := addM_names hsf.2.2.1 hsf.1 hsf.2.1 hnd1.2 hnd1.1
            obtain ⟨Fb, Gb, hAb, hBl, hGF, hFb, hGb, hkb⟩ := hS20.act2 (i := 0) (j := 3) rfl rfl q194_3
            refine .ac (.callF cl194 rfl (ih0 f2 q194_4 hAb (fun b hb => (hFb b hb).2) (slR_no hBl) hGF hGb (by simp only [List.length_append, List.length_cons]; omega) hsf.2.2.1 hsf.1 hsf.2.1 hnd1.2 hnd1.1 (by simp only [List.length_append, List.length_cons]; omega) q194_4) ?_)
            rintro _ w11 ⟨rfl, hm9, t2, xs2, hqe, F2b, hB2, hF2b⟩
            have hS21 : St (fun _ => False) F w0 w11 [boxR [bldR 283 264 238 bB ((s ++ (rests, []) :: xs) ++ xs2) ((nds ++ RNode.mk false (SH.mk none 0 0) :: tc) ++ t2), nrR t2 xs2], nrR tc xs, accR encE 233 2 v_ES ES, slR encS [(v_b2, (stripP (pfx x2) r1))]] := hkb _ _ _ hm9 hB2 hF2b
            have ht2 := nr_len hB2
            clear hAb hBl hGF hFb hGb hkb hB2 hF2b
            have hS22 := (hS21.un 0 rfl [1, 2, 3] (by rfl) q194_3).n5
            have hS23 := (hS22.b2 [1, 2, 3] 0 4 (by rfl) q194_3).n4
            have hS24 := (hS23.ty (nrR (tc ++ t2) (xs ++ xs2)) 3 rfl (fun F_ h_ => nr_app h_)).n4
            have hS25 := (hS24.ty (bldR 283 264 238 bB (s ++ (rests, []) :: (xs ++ xs2)) (nds ++ RNode.mk false (SH.mk none 0 0) :: (tc ++ t2))) 2 rfl (fun F_ h_ => by simpa only [List.append_assoc, List.cons_append] using h_)).n4
            have hal := addM_len (f2 + 1) (s ++ (rests, []) :: xs) (stripP (pfx x2) r1) hsf.1
            rw [hqe] at hal
            simp only [List.length_append, List.length_cons] at hal
            have hidx : (addM (f2 + 1) (s ++ (rests, []) :: xs) (stripP (pfx x2) r1)).2 < ((s ++ (rests, []) :: xs) ++ xs2).length := by rw [← hqe]; exact addM_lt hsf.2.2.1 hsf.1 hsf.2.1 hnd1.2
            simp only [List.length_append, List.length_cons] at hidx
            refine .z (.build (vs := #[(0, (.int .i32 (((Ml.hdN x2 : Int))) : Value)), (1, (.int .i64 ((((addM (f2 + 1) (s ++ (rests, []) :: xs) (stripP (pfx x2) r1)).2 : Nat) : Int)) : Value))]) (v := .agg #[.int .i32 (((Ml.hdN x2 : Int))), .int .i64 ((((addM (f2 + 1) (s ++ (rests, []) :: xs) (stripP (pfx x2) r1)).2 : Nat) : Int))]) rfl (fun _ => by kernel_rfl)) ?_
            refine .ac (.buildSlice [(.agg #[.int .i32 (((Ml.hdN x2 : Int))), .int .i64 ((((addM (f2 + 1) (s ++ (rests, []) :: xs) (stripP (pfx x2) r1)).2 : Nat) : Int))] : Value)] Tryz.underlying219 ti233 rfl rfl rfl q194_3 fun w12 b8 hm10 hb6 hz5 hk4 => ?_)
            have hl10 := Sl.of_blk (enc := encE) hk4 ([(Ed.mk (((Ml.hdN x2 : Int))) ((((addM (f2 + 1) (s ++ (rests, []) :: xs) (stripP (pfx x2) r1)).2 : Nat) : Int)))] : List Ed) 1 rfl rfl q194_8
            have hS27 := (hS25.newSlB hm10 hb6 hz5 hl10).n5
            obtain ⟨g7, f15, hl11, k5⟩ := hS27.accK (i := 0) rfl
            have f16 := hS27.sl (i := 4) (k := 0) rfl rfl
            refine .ac (.append f15 Tryz.underlying219 ti233 rfl encE_len encE_one rfl rfl (f16) ol ox fun v4 g6 w13 ha3 hm11 hg2 hz6 => ?_)
            have hS28 := (k5 _ _ _ _ hm11 ha3 hg2).n5
            clear hg2
            have hS29 := (hS28.sel [2, 3, 0] (by rfl) q194_3).n3
            refine .gi 3 rfl ?_
            exact (ih1 _ _ _ ⟨(v3 : Value), ((r1.drop k) : List Str), (v4 : Value), ((ES ++ [(Ed.mk (((Ml.hdN x2 : Int))) ((((addM (f2 + 1) (s ++ (rests, []) :: xs) (stripP (pfx x2) r1)).2 : Nat) : Int)))]) : List Ed), ((xs ++ xs2) : GS), ((tc ++ t2) : List RNode), rfl, rfl, hS29, hl9, q194_5, q194_1, q194_2, (by first | rw [hst2]; simp only [List.length_append]; omega | (exfalso; omega)), (by first | rw [hst2]; simp only [List.length_append, List.length_cons, List.length_nil]; omega | (exfalso; omega)), (by first | simp only [List.length_append]; omega | (exfalso; omega))⟩ (by rw [hst2]; omega)).sub ⟨rfl, rfl, rfl, rfl, rfl, trivial⟩
        replace hb4 := df hb4
        obtain ⟨⟨bG2, bM2, vN2⟩, hS16⟩ := hS13.exo (i := 0) rfl
        change St (fun _ => False) F w0 w7 [boxR [bkR bB [ptr bG2 0, .map (some bM2)] 283, bkR bG2 [vN2] 264, mapR strV intV bM2 (mapK ((s ++ (rests, []) :: xs))), accR encN 238 2 vN2 ((nds ++ RNode.mk false (SH.mk none 0 0) :: tc))], nrR tc xs, accR encE 233 2 v_ES ES] at hS16
        have hS17 := (hS16.un 0 rfl [1, 2] (by rfl) q194_3).n6
        refine .go 6 rfl ?_
        refine .z (.fieldAddr fl283_0 rfl) ?_
        have f14 := hS17.bk (i := 2) rfl
        refine .z (.l1 ti99 f14) ?_
        refine .go 1 rfl ?_
        refine .z (.fieldAddr fl264_0 rfl) ?_
        have f15 := hS17.bk (i := 3) rfl
        refine .z (.l1 ti262 f15) ?_
        obtain ⟨g6, f16, hl8, k5⟩ := hS17.accK (i := 1) rfl
        obtain ⟨ad2, cp2, hv2⟩ := f16.shape
        refine .go 3 rfl ?_
        subst hv2
        refine .z (.build (vs := #[(0, (.bool true : Value)), (1, (.slice ad2 ES.length cp2))]) (v := .agg #[.bool true, (.slice ad2 ES.length cp2)]) rfl (fun _ => by kernel_rfl)) ?_
        obtain ⟨g7, f17, hl9, k6⟩ := hS17.accK (i := 5) rfl
        obtain ⟨hr3, x2, hx2⟩ := Acc.at (P := Tryz.prog) f17 Tryz.underlying262 ti238 (k := .i64) (n := ((nds.length : Nat) : Int)) (nds.length) q194_4 q194_7
        refine .z (.indexAddr rfl rfl hr3) ?_
        refine .ac (.storeA f17 encN_len (i := nds.length) (o := 0) hx2 ((RNode.mk true (SH.mk ad2 ES.length cp2))) ti238 rfl (by first | omega | rfl) rfl rfl rfl rfl q194_3 (by first | rfl | simp [encN]) fun w8 hm7 hz5 ha3 => ?_)
        have hl10 : (((nds ++ RNode.mk false (SH.mk none 0 0) :: tc)).set nds.length ((RNode.mk true (SH.mk ad2 ES.length cp2)))).length = ((nds ++ RNode.mk false (SH.mk none 0 0) :: tc)).length := List.length_set
        have hS18 := (k6 _ _ _ _ hm7 ha3 (.inl rfl)).n6
        refine .gi 6 rfl ?_
        refine r_ret1 Tryz.func194 rfl rfl ?_
        have hr0 : r1 = [] := List.eq_nil_of_length_eq_zero q194_4
        subst hr0
        have hAD := addM_miss hfi hEI.fin
        have hS19 := (hS18.ty (accR encN 238 2 vN2 ((nds ++ (RNode.mk true (SH.mk ad2 ES.length cp2)) :: tc))) 5 rfl (fun F_ h_ => by rw [show (((nds ++ RNode.mk false (SH.mk none 0 0) :: tc)).set nds.length ((RNode.mk true (SH.mk ad2 ES.length cp2)))) = (nds ++ (RNode.mk true (SH.mk ad2 ES.length cp2)) :: tc) from by simp [List.set_append_right, hlen]] at h_; exact h_)).n6
        have hS20 := (hS19.ty (mapR strV intV bM2 ((mapK (s ++ (rests, ES) :: xs)))) 4 rfl (fun F_ h_ => by rw [show mapK (s ++ (rests, []) :: xs) = mapK (s ++ (rests, ES) :: xs) from mapK_es _ _ _ _ _] at h_; exact h_)).n6
        have hS21 := (hS20.b4 [0, 1] 2 3 4 5 (by rfl) q194_3).n3
        have hS22 : St (fun _ => False) F w0 w8 [nrR tc xs, accR encE 233 2 ((.slice ad2 ES.length cp2)) ES, bldR 283 264 238 bB (s ++ (rests, ES) :: xs) (nds ++ (RNode.mk true (SH.mk ad2 ES.length cp2)) :: tc)] := hS21.exi (bG2, bM2, vN2) (i := 2) rfl
        have hS23 := (hS22.b2 [2] 1 0 (by rfl) q194_3).n2
        have hS24 := (hS23.ty (nrR ((RNode.mk true (SH.mk ad2 ES.length cp2)) :: tc) ((rests, ES) :: xs)) 1 rfl (fun F_ h_ => nr_cons rfl hdre.2.symm h_)).n2
        have hS25 := (hS24.b2 [] 0 1 (by rfl) q194_3).n1
        obtain ⟨hmF, F2, hA2, hF2⟩ := hS25.fin
        exact Ret.mk ⟨by rw [hAD]; simp [hlen], hmF, (RNode.mk true (SH.mk ad2 ES.length cp2)) :: tc, (rests, ES) :: xs, by rw [hAD], F2, hA2, hF2⟩
    replace hb3 := ne_of_beq_false hb3.symm
    have hdre := dropE_cons hx1 (by assumption)
    have hS10 := (hS9.b4 [4] 0 1 2 3 (by rfl) q194_3).n2
    have hS11 : St (fun _ => False) F w0 w6 [slR encN [((.slice (some ⟨b1, 0, none⟩) 1 1), [(RNode.mk false (SH.mk none 0 0))])], bldR 283 264 238 bB (s ++ (rests, []) :: []) (nds ++ RNode.mk false (SH.mk none 0 0) :: [])] := hS10.exi (bG1, bM1, (.slice ad1 ((nds ++ [(RNode.mk false (SH.mk none 0 0))])).length cp1)) (i := 1) rfl
    have hS12 : St (fun _ => False) F w0 w6 [slR encN [((.slice (some ⟨b1, 0, none⟩) 1 1), [(RNode.mk false (SH.mk none 0 0))])], bldR 283 264 238 bB (s ++ (rests, []) :: []) (nds ++ RNode.mk false (SH.mk none 0 0) :: []), nrR [] []] := hS11.new (Mod.refl _ _) (F := fun _ => False) (All2.nil : NR _ _ [] []) (fun _ h => h.elim)
    have hS14 : St (fun _ => False) F w0 w6 [slR encN [((.slice (some ⟨b1, 0, none⟩) 1 1), [(RNode.mk false (SH.mk none 0 0))])], bldR 283 264 238 bB (s ++ (rests, []) :: []) (nds ++ RNode.mk false (SH.mk none 0 0) :: []), nrR [] [], accR encE 233 2 (.slice none 0 0) []] := hS12.newAcc (Mod.refl _ _) Acc.nil (.inl rfl)
    have hS15 := (hS14.sel [1, 2, 3] (by rfl) q194_3).n3
    refine .gi 8 rfl ?_
    refine r_loop (I := fun m E W => ∃ (v_r1 : Value) (r1 : List Str) (v_ES : Value) (ES : List Ed) (xs : GS) (tc : List RNode), E = [(0, ptr bB 0), (1, v_r1), (8, .int .i64 (((nds.length : Nat) : Int))), (9, .bool false), (10, v_ES)] ∧ m = r1.length ∧ St (fun _ => False) F w0 W [bldR 283 264 238 bB (s ++ (rests, []) :: xs) (nds ++ RNode.mk false (SH.mk none 0 0) :: tc), nrR tc xs, accR encE 233 2 v_ES ES] ∧ Sl encS w0 G v_r1 r1 ∧ (EInv f (s ++ [(rests, [])]) (groups (dropE rests)) (s ++ (rests, []) :: xs) ES r1) ∧ (GoodR r1 ∧ (∀ t ∈ r1, t ≠ []) ∧ Deep f r1) ∧ (NamesOk (s ++ (rests, []) :: xs) ∧ (names (s ++ (rests, []) :: xs)).Nodup) ∧ (s.length + 1 + xs.length + sumLen r1 ≤ 1000000) ∧ (ES.length + r1.length ≤ 1000) ∧ (tc.length = xs.length)) ?_ ?_
    · refine ⟨_, _, ⟨(v_r : Value), (rests : List Str), (.slice none 0 0 : Value), ([] : List Ed), ([] : GS), ([] : List RNode), rfl, rfl, hS15, hr, (by first | (rw [hdre.1]; exact EInv.start f _ _)), (by rw [← hdre.1]; exact ⟨hdr.1, hdr.2, fun t ht => hd t (dropE_mem ht)⟩), (by exact names_put hfi hnd hnok hne hg.noff), (by rw [← hdre.1]; simp only [List.length_nil]; omega), (by rw [← hdre.1]; simp only [List.length_nil]; omega), (by rfl)⟩, ⟨rfl, rfl, rfl, rfl, rfl, trivial⟩⟩
    · rintro _ _ w7 ⟨v_r1, r1, v_ES, ES, xs, tc, rfl, rfl, hS13, ha2, hEI, hr1, hnd1, hs1, hel, htc⟩ ih1
      have f13 := hS13.out ha2 hG
      refine .go 4 rfl ?_
      refine .z (.lenSl Tryz.underlying23 (f13) rfl) ?_
      refine .zb (.gt rfl rfl) fun b5 hb4 => ?_
      refine .gi 1 rfl ?_
      cases b5
      case true =>
        replace hb4 := dt hb4
        obtain ⟨x2, b6, o2, hx2, hr2, hl7, hw2⟩ := Sl.atF (P := Tryz.prog) f13 Tryz.underlying23 ti9 encS_len (k := .i64) (n := 0) (0) q194_4 ao
        refine .go 6 rfl ?_
        refine .z (.indexAddr rfl rfl hr2) ?_
        refine .z (.lr ti9 hw2) ?_
        have hxm := List.mem_of_getElem? hx2
        have hxg := hr1.1.fine x2 hxm
        have hxn : x2 ≠ [] := hr1.2.1 x2 hxm
        obtain ⟨f2, rfl⟩ := deep_succ hr1.2.2 hxm hxn
        have hwl := pfx_len hxn
        have hwd := wdN_le x2 hxn
        have hxl := sum_mem hxm
        have hdn := hdN_le x2
        refine .ac (.callF cl209 rfl (first_c (w0 := w7)  x2 q194_7 (by assumption)) ?_)
        rintro _ w8 ⟨_, _, rfl, rfl, rfl, hm7⟩
        have hS16 := hS13.ext hm7
        have := Ml.wdN_le x2
        have := Ml.hdN_le x2
        have hS18 : St (fun _ => False) F w0 w8 [bldR 283 264 238 bB (s ++ (rests, []) :: xs) (nds ++ RNode.mk false (SH.mk none 0 0) :: tc), nrR tc xs, accR encE 233 2 v_ES ES, accR encS 9 1 (.slice none 0 0) []] := hS16.newAcc (Mod.refl _ _) Acc.nil (.inl rfl)
        refine .gi 16 rfl ?_
        refine r_loop (I := fun m E W => ∃ (k : Nat) (v_b2 : Value) (b2 : List Str), E = [(0, ptr bB 0), (1, v_r1), (8, .int .i64 (((nds.length : Nat) : Int))), (9, .bool false), (10, v_ES), (11, .int .i32 (((Ml.hdN x2 : Int)))), (12, .int .i64 ((((Ml.wdN x2 : Nat) : Int)))), (13, .int .i64 (((k : Nat) : Int))), (14, v_b2)] ∧ m = r1.length - k ∧ St (fun _ => False) F w0 W [bldR 283 264 238 bB (s ++ (rests, []) :: xs) (nds ++ RNode.mk false (SH.mk none 0 0) :: tc), nrR tc xs, accR encE 233 2 v_ES ES, accR encS 9 1 v_b2 b2] ∧ (SpanInv (pfx x2) r1 k b2) ∧ (b2.length ≤ k) ∧ (k ≤ r1.length)) ?_ ?_
        · refine ⟨_, _, ⟨(0 : Nat), (.slice none 0 0 : Value), ([] : List Str), rfl, rfl, hS18, (by exact SpanInv.start _ _), (by exact Nat.zero_le _), q194_4⟩, ⟨rfl, rfl, rfl, rfl, rfl, rfl, rfl, rfl, rfl, trivial⟩⟩
        · rintro _ _ w9 ⟨k, v_b2, b2, rfl, rfl, hS17, hsp, hbl, hkl⟩ ih2
          refine .gi 2 rfl ?_
          refine r_draw1 (fun i => Nat.beq i 14) 16 (fun w' => Mod (Mg 0) w9 w') mixed (by kernel_rfl) fun w10 hm8 => ?_
          have hS19 := hS17.ext hm8
          have hCw10 : Mod (Mg 0) w9 w10 := Mod.ofExt hm8
          refine ⟨hCw10, ?_⟩
          rw [show List.range' 0 (Array.size _) = [0, 1, 2, 3, 4, 5, 6, 7, 8, 9, 10, 11, 12, 13, 14, 15] from rfl]
          have f14 := hS17.out ha2 hG
          refine .gd 2 rfl ?_
          refine .z rfl (.lenSl Tryz.underlying23 (f14) rfl) ?_
          refine .zb rfl (.lt rfl rfl) fun b7 hb5 => ?_
          refine .gd 1 rfl ?_
          cases b7
          case true =>
            replace hb5 := dt hb5
            obtain ⟨x3, b8, o3, hx3, hr3, hl8, hw3⟩ := Sl.atF (P := Tryz.prog) f14 Tryz.underlying23 ti9 encS_len (k := .i64) (n := ((k : Nat) : Int)) (k) q194_4 ao
            refine .gd 2 rfl ?_
            refine .z rfl (.indexAddr rfl rfl hr3) ?_
            refine .z rfl (.load1 ti9 rfl (fun _ hc => hw3.keepG hc (Nat.succ_ne_zero _))) ?_
            have hx3l := sum_mem (List.mem_of_getElem? hx3)
            obtain ⟨x4, b9, o4, hx4, hr4, hl9, hw4⟩ := Sl.atF (P := Tryz.prog) f14 Tryz.underlying23 ti9 encS_len (k := .i64) (n := 0) (0) q194_4 ao
            obtain rfl : x2 = x4 := Option.some.inj (hx2.symm.trans hx4)
            refine .gd 1 rfl ?_
            refine .z rfl (.indexAddr rfl rfl hr4) ?_
            refine .z rfl (.load1 ti9 rfl (fun _ hc => hw4.keepG hc (Nat.succ_ne_zero _))) ?_
            refine .gd 1 rfl ?_
            refine .z rfl (.sliceS_hi (Ml.wdN x2) Tryz.underlying9 rfl rfl q194_4 ao) ?_
            refine .ac rfl (.callF cl210 rfl (shp_c (w0 := w10)  x3 ((x2.take (Ml.wdN x2))) ) ?_)
            rintro _ w11 ⟨⟨b10, hb6, rfl⟩, hm9⟩
            have hS20 := hS19.ext hm9
            have hCw11 := hCw10.ext hm9
            refine ⟨.inr hCw11, ?_⟩
            refine .gd 1 rfl ?_
            refine .nil ?_
            cases b10
            case true =>
              replace hb6 := hb6.symm
              have f15 := hS20.out ha2 hG
              obtain ⟨x5, b11, o5, hx5, hr5, hl10, hw5⟩ := Sl.atF (P := Tryz.prog) f15 Tryz.underlying23 ti9 encS_len (k := .i64) (n := ((k : Nat) : Int)) (k) q194_4 ao
              obtain rfl : x3 = x5 := Option.some.inj (hx3.symm.trans hx5)
              refine .go 8 rfl ?_
              refine .z (.indexAddr rfl rfl hr5) ?_
              refine .z (.lr ti9 hw5) ?_
              have hpl : wdN x2 ≤ x3.length := hp_le (p := x2.take (wdN x2)) (by assumption) hwl
              refine .go 1 rfl ?_
              refine .z (.sliceS_lo (Ml.wdN x2) Tryz.underlying9 rfl rfl q194_4 ao) ?_
              refine .ac (.buildSlice [strV ((x3.drop (Ml.wdN x2)))] Tryz.underlying23 ti9 rfl rfl rfl q194_3 fun w12 b12 hm10 hb7 hz5 hk4 => ?_)
              have hl11 := Sl.of_blk (enc := encS) hk4 ([(x3.drop (Ml.wdN x2))] : List Str) 1 rfl rfl q194_8
              have hS22 := (hS20.newSlB hm10 hb7 hz5 hl11).n5
              obtain ⟨g7, f16, hl12, k5⟩ := hS22.accK (i := 3) rfl
              have f17 := hS22.sl (i := 4) (k := 0) rfl rfl
              refine .ac (.append f16 Tryz.underlying23 ti9 rfl encS_len encS_one rfl rfl (f17) ol ox fun v2 g6 w13 ha3 hm11 hg2 hz6 => ?_)
              have hS23 := (k5 _ _ _ _ hm11 ha3 hg2).n5
              clear hg2
              refine .go 4 rfl ?_
              refine .z (.addI (((k + 1 : Nat) : Int)) rfl rfl q194_4) ?_
              have hS24 := (hS23.sel [0, 1, 2, 3] (by rfl) q194_3).n4
              refine .gi 3 rfl ?_
              exact (ih2 _ _ _ ⟨(k + 1 : Nat), (v2 : Value), ((b2 ++ [(x3.drop (Ml.wdN x2))]) : List Str), rfl, rfl, hS24, (by first | exact hsp.nxt hwl hx3 (by assumption) | (exfalso; omega)), (by first | simp only [List.length_append, List.length_cons, List.length_nil]; omega | (exfalso; omega)), (by first | omega | (exfalso; omega))⟩ q194_4).sub ⟨rfl, rfl, rfl, rfl, rfl, rfl, rfl, rfl, rfl, trivial⟩
            replace hb6 := hb6.symm
            obtain ⟨v2, hr5, hl10⟩ := Sl.part (P := Tryz.prog) ha2 Tryz.underlying23 ti9 encS_len (k) (r1.length) (.inr ⟨.i64, ((k : Nat) : Int), rfl, by omega⟩) (.inl ⟨rfl, rfl⟩) q194_4 ao
            replace hl10 : Sl encS w0 G v2 (r1.drop k) := by simpa using hl10
            refine .go 6 rfl ?_
            refine .z (.sliceV rfl rfl rfl rfl hr5) ?_
            obtain ⟨hst, hst2⟩ := hsp.fin q194_6
            have hsf := strip_facts hx2 hr1
            refine .go 7 rfl ?_
            subst hst
            have hEInx := hEI.next2 hx2
            have hS21 := (hS20.freeze (i := 3) rfl).n4
            have hnm := addM_names hsf.2.2.1 hsf.1 hsf.2.1 hnd1.2 hnd1.1
            obtain ⟨Fb, Gb, hAb, hBl, hGF, hFb, hGb, hkb⟩ := hS21.act2 (i := 0) (j := 3) rfl rfl q194_3
            refine .ac (.callF cl194 rfl (ih0 f2 q194_4 hAb (fun b hb => (hFb b hb).2) (slR_no hBl) hGF hGb (by simp only [List.length_append, List.length_cons]; omega) hsf.2.2.1 hsf.1 hsf.2.1 hnd1.2 hnd1.1 (by simp only [List.length_append, List.length_cons]; omega) q194_4) ?_)
            rintro _ w12 ⟨rfl, hm10, t2, xs2, hqe, F2b, hB2, hF2b⟩
            have hS22 : St (fun _ => False) F w0 w12 [boxR [bldR 283 264 238 bB ((s ++ (rests, []) :: xs) ++ xs2) ((nds ++ RNode.mk false (SH.mk none 0 0) :: tc) ++ t2), nrR t2 xs2], nrR tc xs, accR encE 233 2 v_ES ES, slR encS [(v_b2, (stripP (pfx x2) r1))]] := hkb _ _ _ hm10 hB2 hF2b
            have ht2 := nr_len hB2
            clear hAb hBl hGF hFb hGb hkb hB2 hF2b
            have hS23 := (hS22.un 0 rfl [1, 2, 3] (by rfl) q194_3).n5
            have hS24 := (hS23.b2 [1, 2, 3] 0 4 (by rfl) q194_3).n4
            have hS25 := (hS24.ty (nrR (tc ++ t2) (xs ++ xs2)) 3 rfl (fun F_ h_ => nr_app h_)).n4
            have hS26 := (hS25.ty (bldR 283 264 238 bB (s ++ (rests, []) :: (xs ++ xs2)) (nds ++ RNode.mk false (SH.mk none 0 0) :: (tc ++ t2))) 2 rfl (fun F_ h_ => by simpa only [List.append_assoc, List.cons_append] using h_)).n4
            have hal := addM_len (f2 + 1) (s ++ (rests, []) :: xs) (stripP (pfx x2) r1) hsf.1
            rw [hqe] at hal
            simp only [List.length_append, List.length_cons] at hal
            have hidx : (addM (f2 + 1) (s ++ (rests, []) :: xs) (stripP (pfx x2) r1)).2 < ((s ++ (rests, []) :: xs) ++ xs2).length := by rw [← hqe]; exact addM_lt hsf.2.2.1 hsf.1 hsf.2.1 hnd1.2
            simp only [List.length_append, List.length_cons] at hidx
            refine .z (.build (vs := #[(0, (.int .i32 (((Ml.hdN x2 : Int))) : Value)), (1, (.int .i64 ((((addM (f2 + 1) (s ++ (rests, []) :: xs) (stripP (pfx x2) r1)).2 : Nat) : Int)) : Value))]) (v := .agg #[.int .i32 (((Ml.hdN x2 : Int))), .int .i64 ((((addM (f2 + 1) (s ++ (rests, []) :: xs) (stripP (pfx x2) r1)).2 : Nat) : Int))]) rfl (fun _ => by kernel_rfl)) ?_
            refine .ac (.buildSlice [(.agg #[.int .i32 (((Ml.hdN x2 : Int))), .int .i64 ((((addM (f2 + 1) (s ++ (rests, []) :: xs) (stripP (pfx x2) r1)).2 : Nat) : Int))] : Value)] Tryz.underlying219 ti233 rfl rfl rfl q194_3 fun w13 b11 hm11 hb7 hz5 hk4 => ?_)
            have hl11 := Sl.of_blk (enc := encE) hk4 ([(Ed.mk (((Ml.hdN x2 : Int))) ((((addM (f2 + 1) (s ++ (rests, []) :: xs) (stripP (pfx x2) r1)).2 : Nat) : Int)))] : List Ed) 1 rfl rfl q194_8
            have hS28 := (hS26.newSlB hm11 hb7 hz5 hl11).n5
            obtain ⟨g7, f15, hl12, k5⟩ := hS28.accK (i := 0) rfl
            have f16 := hS28.sl (i := 4) (k := 0) rfl rfl
            refine .ac (.append f15 Tryz.underlying219 ti233 rfl encE_len encE_one rfl rfl (f16) ol ox fun v3 g6 w14 ha3 hm12 hg2 hz6 => ?_)
            have hS29 := (k5 _ _ _ _ hm12 ha3 hg2).n5
            clear hg2
            have hS30 := (hS29.sel [2, 3, 0] (by rfl) q194_3).n3
            refine .gi 3 rfl ?_
            exact (ih1 _ _ _ ⟨(v2 : Value), ((r1.drop k) : List Str), (v3 : Value), ((ES ++ [(Ed.mk (((Ml.hdN x2 : Int))) ((((addM (f2 + 1) (s ++ (rests, []) :: xs) (stripP (pfx x2) r1)).2 : Nat) : Int)))]) : List Ed), ((xs ++ xs2) : GS), ((tc ++ t2) : List RNode), rfl, rfl, hS30, hl10, q194_5, q194_1, q194_2, (by first | rw [hst2]; simp only [List.length_append]; omega | (exfalso; omega)), (by first | rw [hst2]; simp only [List.length_append, List.length_cons, List.length_nil]; omega | (exfalso; omega)), (by first | simp only [List.length_append]; omega | (exfalso; omega))⟩ (by rw [hst2]; omega)).sub ⟨rfl, rfl, rfl, rfl, rfl, trivial⟩
          replace hb5 := df hb5
          refine .gd 11 rfl ?_
          refine .nil ?_
          obtain ⟨v2, hr3, hl8⟩ := Sl.part (P := Tryz.prog) ha2 Tryz.underlying23 ti9 encS_len (k) (r1.length) (.inr ⟨.i64, ((k : Nat) : Int), rfl, by omega⟩) (.inl ⟨rfl, rfl⟩) q194_4 ao
          replace hl8 : Sl encS w0 G v2 (r1.drop k) := by simpa using hl8
          refine .go 6 rfl ?_
          refine .z (.sliceV rfl rfl rfl rfl hr3) ?_
          obtain ⟨hst, hst2⟩ := hsp.fin q194_6
          have hsf := strip_facts hx2 hr1
          refine .go 7 rfl ?_
          subst hst
          have hEInx := hEI.next2 hx2
          have hS20 := (hS19.freeze (i := 3) rfl).n4
          have hnm := addM_names hsf.2.2.1 hsf.1 hsf.2.1 hnd1.2 hnd1.1
          obtain ⟨Fb, Gb, hAb, hBl, hGF, hFb, hGb, hkb⟩ := hS20.act2 (i := 0) (j := 3) rfl rfl q194_3
          refine .ac (.callF cl194 rfl (ih0 f2 q194_4 hAb (fun b hb => (hFb b hb).2) (slR_no hBl) hGF hGb (by simp only [List.length_append, List.length_cons]; omega) hsf.2.2.1 hsf.1 hsf.2.1 hnd1.2 hnd1.1 (by simp only [List.length_append, List.length_cons]; omega) q194_4) ?_)
          rintro _ w11 ⟨rfl, hm9, t2, xs2, hqe, F2b, hB2, hF2b⟩
          have hS21 : St (fun _ => False) F w0 w11 [boxR [bldR 283 264 238 bB ((s ++ (rests, []) :: xs) ++ xs2) ((nds ++ RNode.mk false (SH.mk none 0 0) :: tc) ++ t2), nrR t2 xs2], nrR tc xs, accR encE 233 2 v_ES ES, slR encS [(v_b2, (stripP (pfx x2) r1))]] := hkb _ _ _ hm9 hB2 hF2b
          have ht2 := nr_len hB2
          clear hAb hBl hGF hFb hGb hkb hB2 hF2b
          have hS22 := (hS21.un 0 rfl [1, 2, 3] (by rfl) q194_3).n5
          have hS23 := (hS22.b2 [1, 2, 3] 0 4 (by rfl) q194_3).n4
          have hS24 := (hS23.ty (nrR (tc ++ t2) (xs ++ xs2)) 3 rfl (fun F_ h_ => nr_app h_)).n4
          have hS25 := (hS24.ty (bldR 283 264 238 bB (s ++ (rests, []) :: (xs ++ xs2)) (nds ++ RNode.mk false (SH.mk none 0 0) :: (tc ++ t2))) 2 rfl (fun F_ h_ => by simpa only [List.append_assoc, List.cons_append] using h_)).n4
          have hal := addM_len (f2 + 1) (s ++ (rests, []) :: xs) (stripP (pfx x2) r1) hsf.1
          rw [hqe] at hal
          simp only [List.length_append, List.length_cons] at hal
          have hidx : (addM (f2 + 1) (s ++ (rests, []) :: xs) (stripP (pfx x2) r1)).2 < ((s ++ (rests, []) :: xs) ++ xs2).length := by rw [← hqe]; exact addM_lt hsf.2.2.1 hsf.1 hsf.2.1 hnd1.2
          simp only [List.length_append, List.length_cons] at hidx
          refine .z (.build (vs := #[(0, (.int .i32 (((Ml.hdN x2 : Int))) : Value)), (1, (.int .i64 ((((addM (f2 + 1) (s ++ (rests, []) :: xs) (stripP (pfx x2) r1)).2 : Nat) : Int)) : Value))]) (v := .agg #[.int .i32 (((Ml.hdN x2 : Int))), .int .i64 ((((addM (f2 + 1) (s ++ (rests, []) :: xs) (stripP (pfx x2) r1)).2 : Nat) : Int))]) rfl (fun _ => by kernel_rfl)) ?_
          refine .ac (.buildSlice [(.agg #[.int .i32 (((Ml.hdN x2 : Int))), .int .i64 ((((addM (f2 + 1) (s ++ (rests, []) :: xs) (stripP (pfx x2) r1)).2 : Nat) : Int))] : Value)] Tryz.underlying219 ti233 rfl rfl rfl q194_3 fun w12 b8 hm10 hb6 hz5 hk4 => ?_)
          have hl9 := Sl.of_blk (enc := encE) hk4 ([(Ed.mk (((Ml.hdN x2 : Int))) ((((addM (f2 + 1) (s ++ (rests, []) :: xs) (stripP (pfx x2) r1)).2 : Nat) : Int)))] : List Ed) 1 rfl rfl q194_8
          have hS27 := (hS25.newSlB hm10 hb6 hz5 hl9).n5
          obtain ⟨g7, f15, hl10, k5⟩ := hS27.accK (i := 0) rfl
          have f16 := hS27.sl (i := 4) (k := 0) rfl rfl
          refine .ac (.append f15 Tryz.underlying219 ti233 rfl encE_len encE_one rfl rfl (f16) ol ox fun v3 g6 w13 ha3 hm11 hg2 hz6 => ?_)
          have hS28 := (k5 _ _ _ _ hm11 ha3 hg2).n5
          clear hg2
          have hS29 := (hS28.sel [2, 3, 0] (by rfl) q194_3).n3
          refine .gi 3 rfl ?_
          exact (ih1 _ _ _ ⟨(v2 : Value), ((r1.drop k) : List Str), (v3 : Value), ((ES ++ [(Ed.mk (((Ml.hdN x2 : Int))) ((((addM (f2 + 1) (s ++ (rests, []) :: xs) (stripP (pfx x2) r1)).2 : Nat) : Int)))]) : List Ed), ((xs ++ xs2) : GS), ((tc ++ t2) : List RNode), rfl, rfl, hS29, hl8, q194_5, q194_1, q194_2, (by first | rw [hst2]; simp only [List.length_append]; omega | (exfalso; omega)), (by first | rw [hst2]; simp only [List.length_append, List.length_cons, List.length_nil]; omega | (exfalso; omega)), (by first | simp only [List.length_append]; omega | (exfalso; omega))⟩ (by rw [hst2]; omega)).sub ⟨rfl, rfl, rfl, rfl, rfl, trivial⟩
      replace hb4 := df hb4
      obtain ⟨⟨bG2, bM2, vN2⟩, hS16⟩ := hS13.exo (i := 0) rfl
      change St (fun _ => False) F w0 w7 [boxR [bkR bB [ptr bG2 0, .map (some bM2)] 283, bkR bG2 [vN2] 264, mapR strV intV bM2 (mapK ((s ++ (rests, []) :: xs))), accR encN 238 2 vN2 ((nds ++ RNode.mk false (SH.mk none 0 0) :: tc))], nrR tc xs, accR encE 233 2 v_ES ES] at hS16
      have hS17 := (hS16.un 0 rfl [1, 2] (by rfl) q194_3).n6
      refine .go 6 rfl ?_
      refine .z (.fieldAddr fl283_0 rfl) ?_
      have f14 := hS17.bk (i := 2) rfl
      refine .z (.l1 ti99 f14) ?_
      refine .go 1 rfl ?_
      refine .z (.fieldAddr fl264_0 rfl) ?_
      have f15 := hS17.bk (i := 3) rfl
      refine .z (.l1 ti262 f15) ?_
      obtain ⟨g6, f16, hl7, k5⟩ := hS17.accK (i := 1) rfl
      obtain ⟨ad2, cp2, hv2⟩ := f16.shape
      refine .go 3 rfl ?_
      subst hv2
      refine .z (.build (vs := #[(0, (.bool false : Value)), (1, (.slice ad2 ES.length cp2))]) (v := .agg #[.bool false, (.slice ad2 ES.length cp2)]) rfl (fun _ => by kernel_rfl)) ?_
      obtain ⟨g7, f17, hl8, k6⟩ := hS17.accK (i := 5) rfl
      obtain ⟨hr2, x2, hx2⟩ := Acc.at (P := Tryz.prog) f17 Tryz.underlying262 ti238 (k := .i64) (n := ((nds.length : Nat) : Int)) (nds.length) q194_4 q194_7
      refine .z (.indexAddr rfl rfl hr2) ?_
      refine .ac (.storeA f17 encN_len (i := nds.length) (o := 0) hx2 ((RNode.mk false (SH.mk ad2 ES.length cp2))) ti238 rfl (by first | omega | rfl) rfl rfl rfl rfl q194_3 (by first | rfl | simp [encN]) fun w8 hm7 hz5 ha3 => ?_)
      have hl9 : (((nds ++ RNode.mk false (SH.mk none 0 0) :: tc)).set nds.length ((RNode.mk false (SH.mk ad2 ES.length cp2)))).length = ((nds ++ RNode.mk false (SH.mk none 0 0) :: tc)).length := List.length_set
      have hS18 := (k6 _ _ _ _ hm7 ha3 (.inl rfl)).n6
      refine .gi 6 rfl ?_
      refine r_ret1 Tryz.func194 rfl rfl ?_
      have hr0 : r1 = [] := List.eq_nil_of_length_eq_zero q194_4
      subst hr0
      have hAD := addM_miss hfi hEI.fin
      have hS19 := (hS18.ty (accR encN 238 2 vN2 ((nds ++ (RNode.mk false (SH.mk ad2 ES.length cp2)) :: tc))) 5 rfl (fun F_ h_ => by rw [show (((nds ++ RNode.mk false (SH.mk none 0 0) :: tc)).set nds.length ((RNode.mk false (SH.mk ad2 ES.length cp2)))) = (nds ++ (RNode.mk false (SH.mk ad2 ES.length cp2)) :: tc) from by simp [List.set_append_right, hlen]] at h_; exact h_)).n6
      have hS20 := (hS19.ty (mapR strV intV bM2 ((mapK (s ++ (rests, ES) :: xs)))) 4 rfl (fun F_ h_ => by rw [show mapK (s ++ (rests, []) :: xs) = mapK (s ++ (rests, ES) :: xs) from mapK_es _ _ _ _ _] at h_; exact h_)).n6
      have hS21 := (hS20.b4 [0, 1] 2 3 4 5 (by rfl) q194_3).n3
      have hS22 : St (fun _ => False) F w0 w8 [nrR tc xs, accR encE 233 2 ((.slice ad2 ES.length cp2)) ES, bldR 283 264 238 bB (s ++ (rests, ES) :: xs) (nds ++ (RNode.mk false (SH.mk ad2 ES.length cp2)) :: tc)] := hS21.exi (bG2, bM2, vN2) (i := 2) rfl
      have hS23 := (hS22.b2 [2] 1 0 (by rfl) (by decide)).n2
      have hS24 := (hS23.ty (nrR ((RNode.mk false (SH.mk ad2 ES.length cp2)) :: tc) ((rests, ES) :: xs)) 1 rfl (fun F_ h_ => nr_cons rfl hdre.2.symm h_)).n2
      have hS25 := (hS24.b2 [] 0 1 (by rfl) (by decide)).n1
      obtain ⟨hmF, F2, hA2, hF2⟩ := hS25.fin
      exact Ret.mk ⟨by rw [hAD]; simp [hlen], hmF, (RNode.mk false (SH.mk ad2 ES.length cp2)) :: tc, (rests, ES) :: xs, by rw [hAD], F2, hA2, hF2⟩
  | some i0 =>
    have hasc : asc (mapK s) (joinS rests) = some (i0 : Int) := by rw [asc_mapK hg.noff hne s hnok, hfi]; rfl
    refine .z (.lookupHit (key := strV) (val := intV) (keyOk_str Tryz.underlying9) Tryz.underlying281 Tryz.zeroValue3 rfl rfl (fun _ e => e ▸ f2) hasc) ?_
    refine .gi 16 rfl ?_
    refine r_ret1 Tryz.func194 rfl rfl ?_
    have hS4 := (hS3.b4 [] 0 1 2 3 (by rfl) (by decide)).n1
    have hS5 : St (fun _ => False) F w0 w1 [bldR 283 264 238 bB s nds] := hS4.exi (bG1, bM1, vN1) (i := 0) rfl
    have hS6 : St (fun _ => False) F w0 w1 [bldR 283 264 238 bB s nds, nrR [] []] := hS5.new (Mod.refl _ _) (F := fun _ => False) (All2.nil : NR _ _ [] []) (fun _ h => h.elim)
    have hS7 := (hS6.ty (bldR 283 264 238 bB (s ++ []) (nds ++ [])) 0 rfl (fun F_ h_ => by simpa using h_)).n2
    have hS8 := (hS7.b2 [] 0 1 (by rfl) (by decide)).n1
    obtain ⟨hmF, F2, hA2, hF2⟩ := hS8.fin
    exact Ret.mk ⟨by rw [addM_hit hfi]; rfl, hmF, [], [], by rw [addM_hit hfi]; simp, F2, hA2, hF2⟩
end Go.Proofs
namespace Go.Proofs
open Go.Ik Go.Ml
set_option maxRecDepth 20000 in
set_option maxHeartbeats 8000000 in
theorem build_c {w0 : World}  {v_words : Value} {words : List Str} (h_words : Sl encS w0 (Iv 0 w0.heap.size) v_words words) (hok : Ml.LOk words) (hsz : words.length ≤ 1000000) :
    Calls Tryz.prog 171 #[v_words] w0 (Ret fun rv w1 => ∃ u0 u1, rv = .tuple #[u0, u1] ∧ (∃ lo hi, Gr 0 w1 lo hi u0 (Ml.gnodes words) ∧ w0.heap.size ≤ lo ∧ hi ≤ w1.heap.size) ∧ u1 = .int .i64 (Ml.goodL words) ∧ Ext w0 w1) := by
  have hle_words := h_words.le
  have hS0 := St.start0 w0
  refine calls_enter Tryz.func171 rfl Tryz.ntmps171 rfl ?_
  refine .go 9 rfl ?_
  refine .ac (.callF cl54 rfl (lgood_c (w0 := w0) (words := words)  h_words (by assumption)) ?_)
  rintro _ w1 ⟨rfl, hm1⟩
  have hS1 := hS0.ext hm1
  have := Ml.goodL_range words
  refine .go 5 rfl ?_
  refine .zb (.ne rfl rfl) fun b1 hb1 => ?_
  refine .gi 1 rfl ?_
  cases b1
  case true =>
    replace hb1 := bne_iff_ne.1 hb1.symm
    refine .gi 7 rfl ?_
    refine r_ret2 Tryz.func171 rfl rfl rfl ?_
    exact Ret.mk ⟨_, _, rfl, ⟨w0.heap.size, w0.heap.size, .inl ⟨rfl, gnodes_no (by assumption)⟩, Nat.le_refl _, hS1.mod.size⟩, rfl, hS1.mod⟩
  replace hb1 := bne_eq_false_iff_eq.1 hb1.symm
  refine .go 4 rfl ?_
  refine .z (.build (vs := #[]) (v := .agg #[.slice none 0 0]) rfl (fun _ => by kernel_rfl)) ?_
  have hg0 : goodL words = 0 := by assumption
  have hgd := good_deep hg0
  have hgs := good_sum hg0
  refine .ac (.box [.slice none 0 0] rfl rfl fun w2 b2 hm2 hb2 hz1 hk1 => ?_)
  have hS3 := (hS1.newBk hm2 hb2 hk1).n1
  refine .ac (.makeMap (key := strV) (val := intV) fun w3 b3 hm3 hb3 hz2 hk2 => ?_)
  have hS5 := (hS3.newMap hm3 hb3 hk2).n2
  refine .z (.build (vs := #[(0, ptr b2 0), (1, (.map (some b3) : Value))]) (v := .agg #[ptr b2 0, .map (some b3)]) rfl (fun _ => by kernel_rfl)) ?_
  refine .ac (.box [ptr b2 0, .map (some b3)] rfl rfl fun w4 b4 hm4 hb4 hz3 hk3 => ?_)
  have hS7 := (hS5.newBk hm4 hb4 hk3).n3
  have f1 := hS7.out h_words (fun _ _ h => h)
  refine .go 6 rfl ?_
  refine .z (.lenSl Tryz.underlying23 (f1) rfl) ?_
  refine .zb (.eq rfl rfl) fun b5 hb5 => ?_
  refine .gi 1 rfl ?_
  cases b5
  case true =>
    replace hb5 := eq_of_beq hb5.symm
    refine .go 5 rfl ?_
    refine .z (.fieldAddr fl283_0 rfl) ?_
    have f2 := hS7.bk (i := 2) rfl
    refine .z (.l1 ti99 f2) ?_
    refine .z (.build (vs := #[]) (v := .agg #[.bool false, .slice none 0 0]) rfl (fun _ => by kernel_rfl)) ?_
    refine .ac (.buildSlice [(.agg #[.bool false, .slice none 0 0] : Value)] Tryz.underlying262 ti238 rfl rfl rfl (by decide) fun w5 b6 hm5 hb6 hz4 hk4 => ?_)
    have hl1 := Sl.of_blk (enc := encN) hk4 ([(RNode.mk false (SH.mk none 0 0))] : List RNode) 1 rfl rfl (by unfold maxLen; omega)
    have hS9 := (hS7.newSlB hm5 hb6 hz4 hl1).n4
    refine .go 1 rfl ?_
    refine .z (.fieldAddr fl264_0 rfl) ?_
    have f3 := hS9.bk (i := 0) rfl
    refine .ac (.store ti262 rfl rfl rfl rfl rfl f3 (Nat.le_of_ble_eq_true rfl) fun w6 hm6 hz5 hk5 => ?_)
    have hS10 := (hS9.bkK (cs' := [(.slice (some ⟨b6, 0, none⟩) 1 1)]) (i := 0) rfl hm6 hk5).n4
    refine .go 5 rfl ?_
    refine .z (.fieldAddr fl283_0 rfl) ?_
    have f4 := hS10.bk (i := 2) rfl
    refine .z (.l1 ti99 f4) ?_
    refine .gi 3 rfl ?_
    refine r_ret2 Tryz.func171 rfl rfl rfl ?_
    have hS11 := (hS10.sel [0, 3] (by rfl) (by decide)).n2
    have hwn : words = [] := List.eq_nil_of_length_eq_zero (by omega)
    exact Ret.mk ⟨_, _, rfl, ⟨w0.heap.size, _, by rw [gnodes_nil hwn]; exact hS11.gr1, Nat.le_refl _, Nat.le_refl _⟩, (congrArg (Value.int .i64) hg0.symm), hS11.mod⟩
  replace hb5 := ne_of_beq_false hb5.symm
  have hne0 : words ≠ [] := fun e => by subst e; simp at *
  have hS8 : St (fun _ => False) (fun _ => False) w0 w4 [bkR b2 [.slice none 0 0] 264, mapR strV intV b3 [], bkR b4 [ptr b2 0, .map (some b3)] 283, accR encN 238 2 (.slice none 0 0) []] := hS7.newAcc (Mod.refl _ _) Acc.nil (.inl rfl)
  change St (fun _ => False) (fun _ => False) w0 w4 [bkR b2 [.slice none 0 0] 264, mapR strV intV b3 ((mapK [])), bkR b4 [ptr b2 0, .map (some b3)] 283, accR encN 238 2 (.slice none 0 0) []] at hS8
  have hS9 := (hS8.b4 [] 2 0 1 3 (by rfl) (by decide)).n1
  have hS10 : St (fun _ => False) (fun _ => False) w0 w4 [bldR 283 264 238 b4 [] []] := hS9.exi (b2, b3, .slice none 0 0) (i := 0) rfl
  have f2 := hS10.out h_words (fun _ _ h => h)
  obtain ⟨Fb, hAb, hFb, hkb⟩ := hS10.act (i := 0) rfl
  refine .go 6 rfl ?_
  refine .ac (.callF cl194 rfl (node_c 12 (G := Iv 0 w0.heap.size) hAb (fun b hb => (hFb b hb).2) f2 (far_iv hFb) (fun b hb => Nat.lt_of_lt_of_le hb.2 hS10.mod.size) rfl hgd.2 hgd.1 hne0 (by simp [names]) (by simp [NamesOk]) (by simp only [List.length_nil]; omega) (by omega)) ?_)
  rintro _ w5 ⟨rfl, hm5, t2, xs2, hqe, F2b, hB2, hF2b⟩
  have hS11 : St (fun _ => False) (fun _ => False) w0 w5 [boxR [bldR 283 264 238 b4 ([] ++ xs2) ([] ++ t2), nrR t2 xs2]] := hkb _ _ _ hm5 hB2 hF2b
  have hS12 := (hS11.un 0 rfl [] (by rfl) (by decide)).n2
  have hS13 := (hS12.ty (bldR 283 264 238 b4 xs2 t2) 0 rfl (fun F_ h_ => by simpa only [List.nil_append] using h_)).n2
  obtain ⟨⟨bG1, bM1, vN1⟩, hS14⟩ := hS13.exo (i := 0) rfl
  change St (fun _ => False) (fun _ => False) w0 w5 [boxR [bkR b4 [ptr bG1 0, .map (some bM1)] 283, bkR bG1 [vN1] 264, mapR strV intV bM1 (mapK xs2), accR encN 238 2 vN1 t2], nrR t2 xs2] at hS14
  have hS15 := (hS14.un 0 rfl [1] (by rfl) (by decide)).n5
  refine .go 5 rfl ?_
  refine .z (.fieldAddr fl283_0 rfl) ?_
  have f3 := hS15.bk (i := 1) rfl
  refine .z (.l1 ti99 f3) ?_
  refine .gi 3 rfl ?_
  refine r_ret2 Tryz.func171 rfl rfl rfl ?_
  have hS16 := (hS15.sel [2, 4, 0] (by rfl) (by decide)).n3
  have hgm : (addM 13 [] words).1 = graphM words := rfl
  have hxs : xs2 = graphM words := by rw [← hgm, hqe]; simp
  have hgn : gnodes words = gnOf xs2 := by rw [gnodes_yes hg0, hxs]; unfold graphB; rw [if_neg hne0]
  have hxn : xs2 ≠ [] := fun e => by have := (graphM_ok hgd.2 hgd.1 hne0).root; rw [← hxs, e] at this; simp at this
  exact Ret.mk ⟨_, _, rfl, ⟨w0.heap.size, _, by rw [hgn]; exact hS16.gr hxn, Nat.le_refl _, Nat.le_refl _⟩, (congrArg (Value.int .i64) hg0.symm), hS16.mod⟩
end Go.Proofs
namespace Go.Proofs
open Go.Ik Go.Ml
theorem q172_1 {p : Prop} (h : p := by omega) : p := h
theorem q172_2 {p : Prop} (h : p := by first | (rw [encA_no rfl]; done) | (rw [encA_no rfl]) | rfl | (rw [encA_yes (by assumption), enc_fin hO (by omega)]; rfl) | exact errA_yes (by assumption) | (exfalso; omega)) : p := h
theorem q172_3 {p : Prop} (h : p := by first | omega | decide) : p := h
theorem q172_4 {p : Prop} (h : p := by first | exact enc_node hO hgi (by rw [if_pos (by assumption)]) | exact enc_node hO hgi (by rw [if_neg (by simp [*])])) : p := h
set_option maxRecDepth 20000 in
set_option maxHeartbeats 4000000 in
theorem encode_c {w0 : World}  {v_g : Value} {lo_g hi_g : Nat} {g : List GN} (h_g : Gr 0 w0 lo_g hi_g v_g g) (hhi_g : hi_g ≤ w0.heap.size) (hgl : g.length ≤ 1000000) (hel : ∀ x ∈ g, x.2.length ≤ 1000000) (hI : ∀ x ∈ g, ∀ e ∈ x.2, I64 e.to ∧ -2147483648 ≤ e.rune ∧ e.rune ≤ 2147483647) (hbd : (bodyB g).length ≤ 3000000) :
    Calls Tryz.prog 172 #[v_g] w0 (Ret fun rv w1 => ∃ u0 u1, rv = .tuple #[u0, u1] ∧ (∃ gr, Acc encB 5 1 w1 gr u0 (encA g) ∧ (gr = 0 ∨ w0.heap.size < gr)) ∧ u1 = .int .i64 (errA g) ∧ Ext w0 w1) := by
  have hE0 : Ext w0 w0 := Mod.refl _ _
  refine calls_enter Tryz.func172 rfl Tryz.ntmps172 rfl ?_
  have hgr1 := h_g
  refine .go 9 rfl ?_
  rcases h_g with ⟨hv1, hN1⟩ | ⟨b1, vn1, nds1, hv1, hN1, hrw1, hsl1, hrel1⟩
  · subst hv1
    try subst hN1
    refine .z (.eqNil Tryz.underlying99 rfl rfl) ?_
    refine .gi 7 rfl ?_
    refine r_ret2 Tryz.func172 rfl rfl rfl ?_
    exact Ret.mk ⟨_, _, rfl, ⟨0, Acc.cast Acc.nil q172_2, .inl rfl⟩, (congrArg (Value.int .i64) q172_2), hE0⟩
  · subst hv1
    have hnl1 := (All2.get hrel1).1
    refine .z (.eqNil Tryz.underlying99 rfl rfl) ?_
    refine .go 5 rfl ?_
    refine .ac (.buildSlice [(.int .u8 73 : Value), (.int .u8 78 : Value), (.int .u8 75 : Value), (.int .u8 49 : Value)] Tryz.underlying120 ti5 rfl rfl rfl (by decide) fun w1 b2 hm1 hb1 hz1 hk1 => ?_)
    have f1 := hgr1.ext hm1
    have f2 := hrel1.ext hm1
    have f3 := hsl1.ext hm1
    have f4 := hrw1.ext hm1
    have hE1 := hE0.ext hm1
    have hs1 := hm1.size
    have hl1 := Sl.of_blk (enc := encB) hk1 ([(73 : UInt8), (78 : UInt8), (75 : UInt8), (49 : UInt8)] : List UInt8) 4 rfl rfl (by unfold maxLen; omega)
    refine .ac (.convSl Tryz.underlying120 Tryz.underlying5 rfl hk1 fun w2 hm2 hz2 hrw2 => ?_)
    have f5 := f1.keepG hm2 (by omega)
    have f6 := f2.keepG hm2 (by omega)
    have f7 := f3.keepG hm2 (by omega)
    have f8 := f4.keepG hm2 (by omega)
    have hE2 := Ext.thenG hE1 hm2 (by omega)
    have hs2 := hm2.size
    have hl2 : Sl encB w2 (Iv b2 (b2 + 1)) (.slice (some ⟨b2, 0, none⟩) 4 4) [(73 : UInt8), (78 : UInt8), (75 : UInt8), (49 : UInt8)] := Sl.of_row (enc := encB) (l := [(73 : UInt8), (78 : UInt8), (75 : UInt8), (49 : UInt8)]) hrw2 4 rfl (by unfold maxLen; omega)
    refine .go 1 rfl ?_
    refine .ac (.callF cl183 rfl (nodes_c (w0 := w2)   f5 q172_1) ?_)
    rintro _ w3 ⟨rfl, hm3⟩
    have f9 := f5.ext hm3
    have f10 := f6.ext hm3
    have f11 := f7.ext hm3
    have f12 := f8.ext hm3
    have f13 := hl2.ext hm3
    have hE3 := hE2.ext hm3
    have hs3 := hm3.size
    refine .ac (.callF cl195 rfl (put_c (w0 := w3) (b := [(73 : UInt8), (78 : UInt8), (75 : UInt8), (49 : UInt8)]) ((((g.length : Nat) : Int))) (2) ((f13).iv (Nat.zero_le _) q172_1) (by first | assumption | omega | (simp only [List.length_append, putN_len, List.length_cons, List.length_nil]; omega)) q172_3) ?_)
    rintro v1 w4 ⟨⟨gr1, h1, hg1⟩, hm4⟩
    have f14 := f9.ext hm4
    have f15 := f10.ext hm4
    have f16 := f11.ext hm4
    have f17 := f12.ext hm4
    have hE4 := hE3.ext hm4
    have hs4 := hm4.size
    have hle_1 := h1.le
    have hlt_1 := h1.lt
    have := putN_len ((((g.length : Nat) : Int))) 2
    refine .go 6 rfl ?_
    refine .ac (.callF cl183 rfl (nodes_c (w0 := w4)   f14 q172_1) ?_)
    rintro _ w5 ⟨rfl, hm5⟩
    have hl3 := h1.lt
    have f19 := f14.ext hm5
    have f20 := f15.ext hm5
    have f21 := f16.ext hm5
    have f22 := f17.ext hm5
    have f24 := h1.ext hm5
    have hE5 := hE4.ext hm5
    have hs5 := hm5.size
    refine .gi 3 rfl ?_
    refine r_loop (I := fun m E W => ∃ (v_out : Value) (g_out : Nat) (out : List UInt8) (i : Nat), E = [(0, ptr b1 0), (4, v_out), (18, .int .i64 ((((g.length : Nat) : Int)))), (19, .int .i64 (((i : Nat) : Int)))] ∧ m = g.length - i ∧ Ext w0 W ∧ w5.heap.size ≤ W.heap.size ∧ Acc encB 5 1 W g_out v_out out ∧ (g_out = 0 ∨ w0.heap.size < g_out) ∧ Rw W lo_g hi_g b1 [vn1] ∧ Sl encN W (Iv lo_g hi_g) vn1 nds1 ∧ NRel W (Iv lo_g hi_g) nds1 g ∧ Gr 0 W lo_g hi_g ((ptr b1 0)) g ∧ (g_out ≤ lo_g ∨ hi_g < g_out) ∧ (out ++ (g.drop i).flatMap nodeB = bodyB g) ∧ (i ≤ g.length)) ?_ ?_
    · refine ⟨_, _, ⟨(v1 : Value), (gr1 : Nat), ((([(73 : UInt8), (78 : UInt8), (75 : UInt8), (49 : UInt8)]) ++ putN ((((g.length : Nat) : Int))) 2) : List UInt8), (0 : Nat), rfl, rfl, hE5, Nat.le_refl _, f24, q172_1, f22, f21, f20, f19, q172_1, (by exact enc_start g), q172_1⟩, ⟨rfl, rfl, rfl, rfl, trivial⟩⟩
    · rintro _ _ w6 ⟨v_out, g_out, out, i, rfl, rfl, hE6, hs6, ha1, hg2, f25, f26, f27, f28, hn1, hO, hil⟩ ih1
      have hbl := enc_len hO
      refine .go 2 rfl ?_
      refine .zb (.lt rfl rfl) fun b3 hb2 => ?_
      refine .gi 2 rfl ?_
      cases b3
      case true =>
        replace hb2 := dt hb2
        have hgi := nodeAt_some (g := g) (i := i) (by omega)
        have hgl3 := enc_lenN hO hgi
        have hnl := nodeAt_len hel (i : Int)
        refine .go 18 rfl ?_
        refine .ac (.callF cl144 rfl (final_c (w0 := w6)  (((i : Nat) : Int)) f28 q172_1 oa (by first | assumption | omega | (simp; done))) ?_)
        rintro _ w7 ⟨⟨b4, hb3, rfl⟩, hm6⟩
        have hl4 := ha1.lt
        have f29 := ha1.ext hm6
        have f30 := f25.ext hm6
        have f31 := f26.ext hm6
        have f32 := f27.ext hm6
        have f33 := f28.ext hm6
        have hE7 := hE6.ext hm6
        have hs7 := hm6.size
        refine .gi 1 rfl ?_
        cases b4
        case true =>
          replace hb3 := hb3.symm
          refine .go 8 rfl ?_
          refine .ac (.callF cl195 rfl (put_c (w0 := w7) (b := out) (1) (1) ((f29.sl).iv (Nat.zero_le _) q172_1) (by first | assumption | omega | (simp only [List.length_append, putN_len, List.length_cons, List.length_nil]; omega)) q172_3) ?_)
          rintro v2 w8 ⟨⟨gr2, h2, hg3⟩, hm7⟩
          have hl5 := f29.lt
          have f34 := f29.ext hm7
          have f35 := f30.ext hm7
          have f36 := f31.ext hm7
          have f37 := f32.ext hm7
          have f38 := f33.ext hm7
          have hE8 := hE7.ext hm7
          have hs8 := hm7.size
          have hle_2 := h2.le
          have hlt_2 := h2.lt
          have := putN_len 1 1
          refine .go 6 rfl ?_
          refine .ac (.callF cl145 rfl (edges_c (w0 := w8)  (((i : Nat) : Int)) f38 q172_1 oa (by first | assumption | omega | (simp; done)) (by first | assumption | (simp; done))) ?_)
          rintro v3 w9 ⟨⟨gr3, h3, hg4⟩, hm8⟩
          have hl6 := f34.lt
          have hl7 := h2.lt
          have f39 := f34.ext hm8
          have f40 := f35.ext hm8
          have f41 := f36.ext hm8
          have f42 := f37.ext hm8
          have f43 := f38.ext hm8
          have f44 := h2.ext hm8
          have hE9 := hE8.ext hm8
          have hs9 := hm8.size
          have hle_3 := h3.le
          have hlt_3 := h3.lt
          refine .go 6 rfl ?_
          refine .z (.lenSl Tryz.underlying219 (h3.sl) rfl) ?_
          refine .ac (.callF cl195 rfl (put_c (w0 := w9) (b := (out ++ putN 1 1)) ((((((nodeAt g (((i : Nat) : Int))).2)).length : Nat) : Int)) (2) ((f44.sl).iv (Nat.zero_le _) q172_1) (by first | assumption | omega | (simp only [List.length_append, putN_len, List.length_cons, List.length_nil]; omega)) q172_3) ?_)
          rintro v4 w10 ⟨⟨gr4, h4, hg5⟩, hm9⟩
          have hl8 := f39.lt
          have hl9 := f44.lt
          have hl10 := h3.lt
          have f46 := f40.ext hm9
          have f47 := f41.ext hm9
          have f48 := f42.ext hm9
          have f49 := f43.ext hm9
          have f51 := h3.ext hm9
          have hE10 := hE9.ext hm9
          have hs10 := hm9.size
          have hle_4 := h4.le
          have hlt_4 := h4.lt
          have := putN_len ((((((nodeAt g (((i : Nat) : Int))).2)).length : Nat) : Int)) 2
          refine .go 5 rfl ?_
          refine .z (.lenSl Tryz.underlying219 (f51.sl) rfl) ?_
          refine .gi 3 rfl ?_
          refine r_loop (I := fun m E W => ∃ (v_out2 : Value) (g_out2 : Nat) (out2 : List UInt8) (k : Nat), E = [(0, ptr b1 0), (4, v_out2), (18, .int .i64 ((((g.length : Nat) : Int)))), (19, .int .i64 (((i : Nat) : Int))), (35, v3), (36, .int .i64 ((((((nodeAt g (((i : Nat) : Int))).2)).length : Nat) : Int))), (37, .int .i64 (((k : Nat) : Int)))] ∧ m = (nodeAt g (i : Int)).2.length - k ∧ Ext w0 W ∧ w10.heap.size ≤ W.heap.size ∧ Acc encB 5 1 W g_out2 v_out2 out2 ∧ (g_out2 = 0 ∨ w0.heap.size < g_out2) ∧ Rw W lo_g hi_g b1 [vn1] ∧ Sl encN W (Iv lo_g hi_g) vn1 nds1 ∧ NRel W (Iv lo_g hi_g) nds1 g ∧ Gr 0 W lo_g hi_g ((ptr b1 0)) g ∧ Acc encE 233 2 W gr3 v3 (((nodeAt g (((i : Nat) : Int))).2)) ∧ (g_out2 ≤ lo_g ∨ hi_g < g_out2) ∧ (g_out2 ≠ gr3 ∨ gr3 = 0) ∧ (out2 ++ (((nodeAt g (i : Int)).2.drop k).flatMap edgeB ++ (g.drop (i + 1)).flatMap nodeB) = bodyB g) ∧ (k ≤ (nodeAt g (i : Int)).2.length)) ?_ ?_
          · refine ⟨_, _, ⟨(v4 : Value), (gr4 : Nat), ((((out ++ putN 1 1)) ++ putN ((((((nodeAt g (((i : Nat) : Int))).2)).length : Nat) : Int)) 2) : List UInt8), (0 : Nat), rfl, rfl, hE10, Nat.le_refl _, h4, q172_1, f46, f47, f48, f49, f51, q172_1, q172_1, q172_4, q172_1⟩, ⟨rfl, rfl, rfl, rfl, rfl, rfl, rfl, trivial⟩⟩
          · rintro _ _ w11 ⟨v_out2, g_out2, out2, k, rfl, rfl, hE11, hs11, ha2, hg6, f52, f53, f54, f55, f56, hn2, hn3, hO2, hkl⟩ ih2
            have hbl2 := enc_len hO2
            refine .go 2 rfl ?_
            refine .zb (.lt rfl rfl) fun b5 hb4 => ?_
            refine .gi 2 rfl ?_
            cases b5
            case true =>
              replace hb4 := dt hb4
              obtain ⟨x1, b6, o1, hx1, hr1, hl11, hu1, hw1⟩ := Sl.at' (P := Tryz.prog) f56.sl Tryz.underlying219 ti233 encE_len (k := .i64) (n := ((k : Nat) : Int)) (k) q172_1 ao
              refine .go 6 rfl ?_
              refine .z (.indexAddr rfl rfl hr1) ?_
              refine .z (.loadN ti233 rfl (fun _ e => e ▸ hw1) rfl) ?_
              have hl6 := enc_len4 hO2 hx1
              have hie := hI _ (List.mem_of_getElem? hgi) _ (List.mem_of_getElem? hx1)
              refine .ac (.alloc ti233 fun w12 b7 hm10 hb5 hz3 hk2 => ?_)
              have hl12 := ha2.lt
              have hl13 := f56.lt
              have f57 := ha2.ext hm10
              have f58 := f52.ext hm10
              have f59 := f53.ext hm10
              have f60 := f54.ext hm10
              have f61 := f55.ext hm10
              have f62 := f56.ext hm10
              have hE12 := hE11.ext hm10
              have hs12 := hm10.size
              refine .ac (.store ti233 rfl rfl rfl rfl rfl hk2 (Nat.le_of_ble_eq_true rfl) fun w13 hm11 hz4 hk3 => ?_)
              replace hk3 : Bk w13 b7 [.int .i32 x1.rune, .int .i64 x1.to] 233 := hk3
              have hl14 := f57.lt
              have hl15 := f62.lt
              have f63 := f57.keepG hm11 (by omega)
              have f64 := f58.keepG hm11 (by omega)
              have f65 := f59.keepG hm11 (by omega)
              have f66 := f60.keepG hm11 (by omega)
              have f67 := f61.keepG hm11 (by omega)
              have f68 := f62.keepG hm11 (by omega)
              have hE13 := Ext.thenG hE12 hm11 (by omega)
              have hs13 := hm11.size
              refine .go 4 rfl ?_
              refine .z (.fieldAddr fl233_0 rfl) ?_
              refine .z (.l1 ti21 hk3) ?_
              refine .z (.convN (by kernel_rfl) Tryz.underlying3 rfl (IntWalk.i64_in _ q172_1)) ?_
              refine .ac (.callF cl195 rfl (put_c (w0 := w13) (b := out2) (x1.rune) (4) ((f63.sl).iv (Nat.zero_le _) q172_1) (by first | assumption | omega | (simp only [List.length_append, putN_len, List.length_cons, List.length_nil]; omega)) q172_3) ?_)
              rintro v5 w14 ⟨⟨gr5, h5, hg7⟩, hm12⟩
              have hl16 := f63.lt
              have hl17 := f68.lt
              have f69 := f63.ext hm12
              have f70 := f64.ext hm12
              have f71 := f65.ext hm12
              have f72 := f66.ext hm12
              have f73 := f67.ext hm12
              have f74 := f68.ext hm12
              have f75 := hk3.ext hm12
              have hE14 := hE13.ext hm12
              have hs14 := hm12.size
              have hle_5 := h5.le
              have hlt_5 := h5.lt
              have := putN_len x1.rune 4
              refine .go 4 rfl ?_
              refine .z (.fieldAddr fl233_1 rfl) ?_
              refine .z (.l1 ti3 f75) ?_
              refine .ac (.callF cl195 rfl (put_c (w0 := w14) (b := (out2 ++ putN x1.rune 4)) (x1.to) (2) ((h5.sl).iv (Nat.zero_le _) q172_1) (by first | assumption | omega | (simp only [List.length_append, putN_len, List.length_cons, List.length_nil]; omega)) q172_3) ?_)
              rintro v6 w15 ⟨⟨gr6, h6, hg8⟩, hm13⟩
              have hl18 := f69.lt
              have hl19 := f74.lt
              have hl20 := h5.lt
              have f77 := f70.ext hm13
              have f78 := f71.ext hm13
              have f79 := f72.ext hm13
              have f80 := f73.ext hm13
              have f81 := f74.ext hm13
              have hE15 := hE14.ext hm13
              have hs15 := hm13.size
              have hle_6 := h6.le
              have hlt_6 := h6.lt
              have := putN_len x1.to 2
              refine .go 4 rfl ?_
              refine .z (.addI (((k + 1 : Nat) : Int)) rfl rfl q172_1) ?_
              refine .gi 2 rfl ?_
              exact (ih2 _ _ _ ⟨(v6 : Value), (gr6 : Nat), ((((out2 ++ putN x1.rune 4)) ++ putN x1.to 2) : List UInt8), (k + 1 : Nat), rfl, rfl, hE15, q172_1, h6, q172_1, f77, f78, f79, f80, f81, q172_1, q172_1, (by first | exact enc_edge hO2 hx1 | (exfalso; omega)), (by first | omega | (exfalso; omega))⟩ q172_1).sub ⟨rfl, rfl, rfl, rfl, rfl, rfl, rfl, trivial⟩
            replace hb4 := df hb4
            refine .go 4 rfl ?_
            refine .z (.addI (((i + 1 : Nat) : Int)) rfl rfl q172_1) ?_
            refine .gi 2 rfl ?_
            exact (ih1 _ _ _ ⟨(v_out2 : Value), (g_out2 : Nat), (out2 : List UInt8), (i + 1 : Nat), rfl, rfl, hE11, q172_1, ha2, q172_1, f52, f53, f54, f55, q172_1, (by first | exact enc_next hO2 q172_1 | (exfalso; omega)), (by first | omega | (exfalso; omega))⟩ q172_1).sub ⟨rfl, rfl, rfl, rfl, trivial⟩
        replace hb3 := hb3.symm
        refine .go 6 rfl ?_
        refine .ac (.callF cl195 rfl (put_c (w0 := w7) (b := out) (0) (1) ((f29.sl).iv (Nat.zero_le _) q172_1) (by first | assumption | omega | (simp only [List.length_append, putN_len, List.length_cons, List.length_nil]; omega)) q172_3) ?_)
        rintro v2 w8 ⟨⟨gr2, h2, hg3⟩, hm7⟩
        have hl5 := f29.lt
        have f34 := f29.ext hm7
        have f35 := f30.ext hm7
        have f36 := f31.ext hm7
        have f37 := f32.ext hm7
        have f38 := f33.ext hm7
        have hE8 := hE7.ext hm7
        have hs8 := hm7.size
        have hle_2 := h2.le
        have hlt_2 := h2.lt
        have := putN_len 0 1
        refine .go 6 rfl ?_
        refine .ac (.callF cl145 rfl (edges_c (w0 := w8)  (((i : Nat) : Int)) f38 q172_1 oa (by first | assumption | omega | (simp; done)) (by first | assumption | (simp; done))) ?_)
        rintro v3 w9 ⟨⟨gr3, h3, hg4⟩, hm8⟩
        have hl6 := f34.lt
        have hl7 := h2.lt
        have f39 := f34.ext hm8
        have f40 := f35.ext hm8
        have f41 := f36.ext hm8
        have f42 := f37.ext hm8
        have f43 := f38.ext hm8
        have f44 := h2.ext hm8
        have hE9 := hE8.ext hm8
        have hs9 := hm8.size
        have hle_3 := h3.le
        have hlt_3 := h3.lt
        refine .go 6 rfl ?_
        refine .z (.lenSl Tryz.underlying219 (h3.sl) rfl) ?_
        refine .ac (.callF cl195 rfl (put_c (w0 := w9) (b := (out ++ putN 0 1)) ((((((nodeAt g (((i : Nat) : Int))).2)).length : Nat) : Int)) (2) ((f44.sl).iv (Nat.zero_le _) q172_1) (by first | assumption | omega | (simp only [List.length_append, putN_len, List.length_cons, List.length_nil]; omega)) q172_3) ?_)
        rintro v4 w10 ⟨⟨gr4, h4, hg5⟩, hm9⟩
        have hl8 := f39.lt
        have hl9 := f44.lt
        have hl10 := h3.lt
        have f46 := f40.ext hm9
        have f47 := f41.ext hm9
        have f48 := f42.ext hm9
        have f49 := f43.ext hm9
        have f51 := h3.ext hm9
        have hE10 := hE9.ext hm9
        have hs10 := hm9.size
        have hle_4 := h4.le
        have hlt_4 := h4.lt
        have := putN_len ((((((nodeAt g (((i : Nat) : Int))).2)).length : Nat) : Int)) 2
        refine .go 5 rfl ?_
        refine .z (.lenSl Tryz.underlying219 (f51.sl) rfl) ?_
        refine .gi 3 rfl ?_
        refine r_loop (I := fun m E W => ∃ (v_out2 : Value) (g_out2 : Nat) (out2 : List UInt8) (k : Nat), E = [(0, ptr b1 0), (4, v_out2), (18, .int .i64 ((((g.length : Nat) : Int)))), (19, .int .i64 (((i : Nat) : Int))), (35, v3), (36, .int .i64 ((((((nodeAt g (((i : Nat) : Int))).2)).length : Nat) : Int))), (37, .int .i64 (((k : Nat) : Int)))] ∧ m = (nodeAt g (i : Int)).2.length - k ∧ Ext w0 W ∧ w10.heap.size ≤ W.heap.size ∧ Acc encB 5 1 W g_out2 v_out2 out2 ∧ (g_out2 = 0 ∨ w0.heap.size < g_out2) ∧ Rw W lo_g hi_g b1 [vn1] ∧ Sl encN W (Iv lo_g hi_g) vn1 nds1 ∧ NRel W (Iv lo_g hi_g) nds1 g ∧ Gr 0 W lo_g hi_g ((ptr b1 0)) g ∧ Acc encE 233 2 W gr3 v3 (((nodeAt g (((i : Nat) : Int))).2)) ∧ (g_out2 ≤ lo_g ∨ hi_g < g_out2) ∧ (g_out2 ≠ gr3 ∨ gr3 = 0) ∧ (out2 ++ (((nodeAt g (i : Int)).2.drop k).flatMap edgeB ++ (g.drop (i + 1)).flatMap nodeB) = bodyB g) ∧ (k ≤ (nodeAt g (i : Int)).2.length)) ?_ ?_
        · refine ⟨_, _, ⟨(v4 : Value), (gr4 : Nat), ((((out ++ putN 0 1)) ++ putN ((((((nodeAt g (((i : Nat) : Int))).2)).length : Nat) : Int)) 2) : List UInt8), (0 : Nat), rfl, rfl, hE10, Nat.le_refl _, h4, q172_1, f46, f47, f48, f49, f51, q172_1, q172_1, q172_4, q172_1⟩, ⟨rfl, rfl, rfl, rfl, rfl, rfl, rfl, trivial⟩⟩
        · rintro _ _ w11 ⟨v_out2, g_out2, out2, k, rfl, rfl, hE11, hs11, ha2, hg6, f52, f53, f54, f55, f56, hn2, hn3, hO2, hkl⟩ ih2
          have hbl2 := enc_len hO2
          refine .go 2 rfl ?_
          refine .zb (.lt rfl rfl) fun b5 hb4 => ?_
          refine .gi 2 rfl ?_
          cases b5
          case true =>
            replace hb4 := dt hb4
            obtain ⟨x1, b6, o1, hx1, hr1, hl11, hu1, hw1⟩ := Sl.at' (P := Tryz.prog) f56.sl Tryz.underlying219 ti233 encE_len (k := .i64) (n := ((k : Nat) : Int)) (k) q172_1 ao
            refine .go 6 rfl ?_
            refine .z (.indexAddr rfl rfl hr1) ?_
            refine .z (.loadN ti233 rfl (fun _ e => e ▸ hw1) rfl) ?_
            have hl6 := enc_len4 hO2 hx1
            have hie := hI _ (List.mem_of_getElem? hgi) _ (List.mem_of_getElem? hx1)
            refine .ac (.alloc ti233 fun w12 b7 hm10 hb5 hz3 hk2 => ?_)
            have hl12 := ha2.lt
            have hl13 := f56.lt
            have f57 := ha2.ext hm10
            have f58 := f52.ext hm10
            have f59 := f53.ext hm10
            have f60 := f54.ext hm10
            have f61 := f55.ext hm10
            have f62 := f56.ext hm10
            have hE12 := hE11.ext hm10
            have hs12 := hm10.size
            refine .ac (.store ti233 rfl rfl rfl rfl rfl hk2 (Nat.le_of_ble_eq_true rfl) fun w13 hm11 hz4 hk3 => ?_)
            replace hk3 : Bk w13 b7 [.int .i32 x1.rune, .int .i64 x1.to] 233 := hk3
            have hl14 := f57.lt
            have hl15 := f62.lt
            have f63 := f57.keepG hm11 (by omega)
            have f64 := f58.keepG hm11 (by omega)
            have f65 := f59.keepG hm11 (by omega)
            have f66 := f60.keepG hm11 (by omega)
            have f67 := f61.keepG hm11 (by omega)
            have f68 := f62.keepG hm11 (by omega)
            have hE13 := Ext.thenG hE12 hm11 (by omega)
            have hs13 := hm11.size
            refine .go 4 rfl ?_
            refine .z (.fieldAddr fl233_0 rfl) ?_
            refine .z (.l1 ti21 hk3) ?_
            refine .z (.convN (by kernel_rfl) Tryz.underlying3 rfl (IntWalk.i64_in _ q172_1)) ?_
            refine .ac (.callF cl195 rfl (put_c (w0 := w13) (b := out2) (x1.rune) (4) ((f63.sl).iv (Nat.zero_le _) q172_1) (by first | assumption | omega | (simp only [List.length_append, putN_len, List.length_cons, List.length_nil]; omega)) q172_3) ?_)
            rintro v5 w14 ⟨⟨gr5, h5, hg7⟩, hm12⟩
            have hl16 := f63.lt
            have hl17 := f68.lt
            have f69 := f63.ext hm12
            have f70 := f64.ext hm12
            have f71 := f65.ext hm12
            have f72 := f66.ext hm12
            have f73 := f67.ext hm12
            have f74 := f68.ext hm12
            have f75 := hk3.ext hm12
            have hE14 := hE13.ext hm12
            have hs14 := hm12.size
            have hle_5 := h5.le
            have hlt_5 := h5.lt
            have := putN_len x1.rune 4
            refine .go 4 rfl ?_
            refine .z (.fieldAddr fl233_1 rfl) ?_
            refine .z (.l1 ti3 f75) ?_
            refine .ac (.callF cl195 rfl (put_c (w0 := w14) (b := (out2 ++ putN x1.rune 4)) (x1.to) (2) ((h5.sl).iv (Nat.zero_le _) q172_1) (by first | assumption | omega | (simp only [List.length_append, putN_len, List.length_cons, List.length_nil]; omega)) q172_3) ?_)
            rintro v6 w15 ⟨⟨gr6, h6, hg8⟩, hm13⟩
            have hl18 := f69.lt
            have hl19 := f74.lt
            have hl20 := h5.lt
            have f77 := f70.ext hm13
            have f78 := f71.ext hm13
            have f79 := f72.ext hm13
            have f80 := f73.ext hm13
            have f81 := f74.ext hm13
            have hE15 := hE14.ext hm13
            have hs15 := hm13.size
            have hle_6 := h6.le
            have hlt_6 := h6.lt
            have := putN_len x1.to 2
            refine .go 4 rfl ?_
            refine .z (.addI (((k + 1 : Nat) : Int)) rfl rfl q172_1) ?_
            refine .gi 2 rfl ?_
            exact (ih2 _ _ _ ⟨(v6 : Value), (gr6 : Nat), ((((out2 ++ putN x1.rune 4)) ++ putN x1.to 2) : List UInt8), (k + 1 : Nat), rfl, rfl, hE15, q172_1, h6, q172_1, f77, f78, f79, f80, f81, q172_1, q172_1, (by first | exact enc_edge hO2 hx1 | (exfalso; omega)), (by first | omega | (exfalso; omega))⟩ q172_1).sub ⟨rfl, rfl, rfl, rfl, rfl, rfl, rfl, trivial⟩
          replace hb4 := df hb4
          refine .go 4 rfl ?_
          refine .z (.addI (((i + 1 : Nat) : Int)) rfl rfl q172_1) ?_
          refine .gi 2 rfl ?_
          exact (ih1 _ _ _ ⟨(v_out2 : Value), (g_out2 : Nat), (out2 : List UInt8), (i + 1 : Nat), rfl, rfl, hE11, q172_1, ha2, q172_1, f52, f53, f54, f55, q172_1, (by first | exact enc_next hO2 q172_1 | (exfalso; omega)), (by first | omega | (exfalso; omega))⟩ q172_1).sub ⟨rfl, rfl, rfl, rfl, trivial⟩
      replace hb2 := df hb2
      have hl4 := ha1.lt
      refine .go 6 rfl ?_
      refine .ac (.callF cl137 rfl (sumof_c (w0 := w6) (b := out)  ((ha1.sl).iv (Nat.zero_le _) q172_1) (by first | assumption | omega | (simp only [List.length_append, putN_len, List.length_cons, List.length_nil]; omega))) ?_)
      rintro _ w7 ⟨rfl, hm6⟩
      have hl5 := ha1.lt
      have f29 := ha1.ext hm6
      have hE7 := hE6.ext hm6
      have hs7 := hm6.size
      have := sumF_lt 0 out
      change sumN out < _ at this
      refine .z (.convN (by kernel_rfl) Tryz.underlying3 rfl (IntWalk.i64_in _ q172_1)) ?_
      refine .ac (.callF cl195 rfl (put_c (w0 := w7) (b := out) ((((sumN out : Nat) : Int))) (4) ((f29.sl).iv (Nat.zero_le _) q172_1) (by first | assumption | omega | (simp only [List.length_append, putN_len, List.length_cons, List.length_nil]; omega)) q172_3) ?_)
      rintro v2 w8 ⟨⟨gr2, h2, hg3⟩, hm7⟩
      have hl6 := f29.lt
      have hE8 := hE7.ext hm7
      have hs8 := hm7.size
      have hle_2 := h2.le
      have hlt_2 := h2.lt
      have := putN_len ((((sumN out : Nat) : Int))) 4
      refine .gi 3 rfl ?_
      refine r_ret2 Tryz.func172 rfl rfl rfl ?_
      exact Ret.mk ⟨_, _, rfl, ⟨_, Acc.cast h2 q172_2, by omega⟩, (congrArg (Value.int .i64) q172_2), hE8⟩
theorem q135_1 {p : Prop} (h : p := by first | exact imgM_no (by assumption) | rfl | exact encA_img hg0 | exact errA_img hg0 | assumption | (exfalso; omega)) : p := h
set_option maxRecDepth 20000 in
set_option maxHeartbeats 4000000 in
theorem packof_c {w0 : World}  {v_words : Value} {words : List Str} (h_words : Sl encS w0 (Iv 0 w0.heap.size) v_words words) (hok : Ml.LOk words) (hsz : words.length ≤ 1000000) :
    Calls Tryz.prog 135 #[v_words] w0 (Ret fun rv w1 => ∃ u0 u1, rv = .tuple #[u0, u1] ∧ (∃ gr, Acc encB 5 1 w1 gr u0 (imgM words) ∧ (gr = 0 ∨ w0.heap.size < gr)) ∧ u1 = .int .i64 (goodL words) ∧ Ext w0 w1) := by
  have hE0 : Ext w0 w0 := Mod.refl _ _
  have hle1 := h_words.le
  refine calls_enter Tryz.func135 rfl Tryz.ntmps135 rfl ?_
  refine .go 8 rfl ?_
  refine .ac (.callF cl171 rfl (build_c (w0 := w0) (words := words)  ((h_words).iv (Nat.zero_le _) (by omega)) (by assumption) ao) ?_)
  rintro _ w1 ⟨vg1, _, rfl, ⟨lo1, hi1, hgr_1, hlo1, hhi1⟩, rfl, hm1⟩
  have hE1 := hE0.ext hm1
  have hs1 := hm1.size
  have := Ml.goodL_range words
  refine .go 10 rfl ?_
  refine .zb (.ne rfl rfl) fun b1 hb1 => ?_
  refine .gi 1 rfl ?_
  cases b1
  case true =>
    replace hb1 := bne_iff_ne.1 hb1.symm
    refine .gi 7 rfl ?_
    refine r_ret2 Tryz.func135 rfl rfl rfl ?_
    exact Ret.mk ⟨_, _, rfl, ⟨0, Acc.cast Acc.nil q135_1, .inl rfl⟩, (congrArg (Value.int .i64) q135_1), hE1⟩
  replace hb1 := bne_eq_false_iff_eq.1 hb1.symm
  have hg0 : goodL words = 0 := by assumption
  have hgok := gok_of hg0
  obtain ⟨hI, hgl, hel⟩ := hgok.edges
  have hbd := body_len hg0
  refine .go 5 rfl ?_
  refine .ac (.callF cl172 rfl (encode_c (w0 := w1)   hgr_1 (by omega) (by first | assumption | omega | (simp; done)) (by first | assumption | (simp; done)) (by first | assumption | (simp; done)) (by first | assumption | omega | (simp [bodyB, putN_len]; done))) ?_)
  rintro _ w2 ⟨v1, _, rfl, ⟨gr1, h1, hg1⟩, rfl, hm2⟩
  have hE2 := hE1.ext hm2
  have hs2 := hm2.size
  have hle_1 := h1.le
  have hlt_1 := h1.lt
  have := encA_lenE ((Ml.gnodes words)) (by first | assumption | omega | (simp [bodyB, putN_len]; done))
  refine .gi 5 rfl ?_
  refine r_ret2 Tryz.func135 rfl rfl rfl ?_
  exact Ret.mk ⟨_, _, rfl, ⟨_, Acc.cast h1 q135_1, by omega⟩, (congrArg (Value.int .i64) q135_1), hE2⟩
end Go.Proofs
namespace Go.Proofs
open Go.Ik Go.Ml
theorem q91_1 {p : Prop} (h : p := by first | exact (imgC_no (by omega)).1 | exact (imgC_no (by omega)).2 | exact (imgC_yes (by omega) (by omega)).1 | exact (imgC_yes (by omega) (by omega)).2 | (exfalso; omega)) : p := h
theorem q91_2 {p : Prop} (h : p := by omega) : p := h
set_option maxRecDepth 20000 in
set_option maxHeartbeats 4000000 in
theorem pimage_c {w0 : World}  {c : Cfg} {v_c_words : Value} {v_c_cuts : Value} (shard : Int) (h_c_words : Sl encS w0 (Iv 0 w0.heap.size) v_c_words c.words) (h_c_cuts : Sl encKey w0 (Iv 0 w0.heap.size) v_c_cuts c.cuts) (h_c : Cfg.Ok c) (h_shard : I64 shard) (hlen : c.words.length ≤ 1000000) :
    Calls Tryz.prog 91 #[.agg #[v_c_words, v_c_cuts, .int .i64 c.workers, .int .i64 c.copies, .int .i64 c.slots, .int .i64 c.batch, .int .i64 c.lease, .int .i64 c.hedge, .int .i64 c.first, .int .i64 c.cap, .int .i64 c.jitter, .int .i64 c.net], .int .i64 shard] w0 (Ret fun rv w1 => ∃ u0 u1, rv = .tuple #[u0, u1] ∧ (∃ gr, Acc encB 5 1 w1 gr u0 (imgC c shard) ∧ (gr = 0 ∨ w0.heap.size < gr)) ∧ u1 = .int .i64 (errC c shard) ∧ Ext w0 w1) := by
  have hE0 : Ext w0 w0 := Mod.refl _ _
  have hle1 := h_c_words.le
  have hle2 := h_c_cuts.le
  refine calls_enter Tryz.func91 rfl Tryz.ntmps91 rfl ?_
  refine .go 2 rfl ?_
  refine .ac (.box [v_c_words, v_c_cuts, .int .i64 c.workers, .int .i64 c.copies, .int .i64 c.slots, .int .i64 c.batch, .int .i64 c.lease, .int .i64 c.hedge, .int .i64 c.first, .int .i64 c.cap, .int .i64 c.jitter, .int .i64 c.net] rfl rfl fun w1 b1 hm1 hb1 hz1 hk1 => ?_)
  have f1 := h_c_words.ext hm1
  have f2 := h_c_cuts.ext hm1
  have hE1 := hE0.ext hm1
  have hs1 := hm1.size
  refine .go 7 rfl ?_
  refine .z (.loadN ti26 rfl (fun _ e => e ▸ hk1.row) rfl) ?_
  refine .ac (.callF cl57 rfl (shards_c (w0 := w1) (c := c)  ((f1).iv (Nat.zero_le _) q91_2) ((f2).iv (Nat.zero_le _) q91_2) (by first | assumption | exact Ml.Cfg.ok_of (by decide +kernel))) ?_)
  rintro _ w2 ⟨rfl, hm2⟩
  have f3 := f1.ext hm2
  have f4 := f2.ext hm2
  have f5 := hk1.ext hm2
  have hE2 := hE1.ext hm2
  have hs2 := hm2.size
  have := Ml.shards_le c
  refine .z (.subI (((((Ml.shards c : Nat) : Int)) - 1)) rfl rfl q91_2) ?_
  refine .ac (.callF cl56 rfl (within_c (w0 := w2)  (shard) (0) (((((Ml.shards c : Nat) : Int)) - 1)) oa oa oa) ?_)
  rintro _ w3 ⟨⟨b2, hb2, rfl⟩, hm3⟩
  have f6 := f3.ext hm3
  have f7 := f4.ext hm3
  have f8 := f5.ext hm3
  have hE3 := hE2.ext hm3
  have hs3 := hm3.size
  cases b2
  case true =>
    replace hb2 := hb2.symm
    have := Ml.within_true hb2
    refine .z (.not rfl) ?_
    refine .go 5 rfl ?_
    refine .z (.loadN ti26 rfl (fun _ e => e ▸ f8.row) rfl) ?_
    refine .go 1 rfl ?_
    refine .ac (.callF cl39 rfl (pwords_c (w0 := w3) (c := c) (shard) ((f6).iv (Nat.zero_le _) q91_2) ((f7).iv (Nat.zero_le _) q91_2) (by first | assumption | exact Ml.Cfg.ok_of (by decide +kernel)) oa ao) ?_)
    rintro v1 w4 ⟨⟨gr1, h1, hg1⟩, hm4⟩
    have hE4 := hE3.ext hm4
    have hs4 := hm4.size
    have hle_1 := h1.le
    have hlt_1 := h1.lt
    have := slice_len c.cuts c.words shard
    change (Ml.wordsM c shard).length ≤ _ at this
    refine .ac (.callF cl135 rfl (packof_c (w0 := w4) (words := (Ml.wordsM c shard))  ((h1.sl).iv (Nat.zero_le _) q91_2) (by exact slice_lok h_c.words) (by first | assumption | omega | (simp; done))) ?_)
    rintro _ w5 ⟨v2, _, rfl, ⟨gr2, h2, hg2⟩, rfl, hm5⟩
    have hl1 := h1.lt
    have hE5 := hE4.ext hm5
    have hs5 := hm5.size
    have hle_2 := h2.le
    have hlt_2 := h2.lt
    have := imgM_len ((Ml.wordsM c shard))
    refine .gi 5 rfl ?_
    refine r_ret2 Tryz.func91 rfl rfl rfl ?_
    exact Ret.mk ⟨_, _, rfl, ⟨_, Acc.cast h2 q91_1, by omega⟩, (congrArg (Value.int .i64) q91_1), hE5⟩
  replace hb2 := hb2.symm
  have := Ml.within_false hb2
  refine .z (.not rfl) ?_
  refine .gi 7 rfl ?_
  refine r_ret2 Tryz.func91 rfl rfl rfl ?_
  exact Ret.mk ⟨_, _, rfl, ⟨0, Acc.cast Acc.nil q91_1, .inl rfl⟩, (congrArg (Value.int .i64) q91_1), hE3⟩
end Go.Proofs
namespace Go.Proofs
open Go.Ik Go.Ml
theorem q45_1 {p : Prop} (h : p := by first | exact .inl (Eq.symm (by assumption)) | exact .inl (by assumption) | exact .inr (by omega)) : p := h
theorem q45_2 {p : Prop} (h : p := by first | assumption | exact Ml.Cfg.ok_of (by decide +kernel)) : p := h
set_option maxRecDepth 20000 in
set_option maxHeartbeats 1000000 in
theorem dnew_c {w0 : World} {c : Cfg} {v_c_words : Value} {v_c_cuts : Value} (worker : Int) (h_c_words : Sl encS w0 (Iv 0 w0.heap.size) v_c_words c.words) (h_c_cuts : Sl encKey w0 (Iv 0 w0.heap.size) v_c_cuts c.cuts) (h_c : Cfg.Ok c) (hw : I64 worker) (hlen : c.words.length ≤ 1000000) :
    Calls Tryz.prog 45 #[(.agg #[v_c_words, v_c_cuts, .int .i64 c.workers, .int .i64 c.copies, .int .i64 c.slots, .int .i64 c.batch, .int .i64 c.lease, .int .i64 c.hedge, .int .i64 c.first, .int .i64 c.cap, .int .i64 c.jitter, .int .i64 c.net] : Value), .int .i64 worker] w0 (Ret fun rv w1 => Mod (fun _ => False) w0 w1 ∧ (mayD c worker = false ∧ rv = .tuple #[.pointer none, .int .i64 2] ∨ mayD c worker = true ∧ ∃ bd F2, rv = .tuple #[ptr bd 0, .int .i64 0] ∧ (dkK (R := fun _ => False) 164 123 5 bd 0 ((dkNew c worker))).p F2 w1 ∧ ∀ b, F2 b → b < w1.heap.size ∧ w0.heap.size ≤ b)) := by
  have hS0 := St.start0 w0
  have hle1 := h_c_words.le
  have hle2 := h_c_cuts.le
  have hc1 := h_c.workers
  have hc2 := h_c.copies
  have hc3 := h_c.slots
  have hc4 := h_c.batch
  have hc5 := h_c.lease
  have hc6 := h_c.hedge
  have hc7 := h_c.first
  have hc8 := h_c.cap
  have hc9 := h_c.jitter
  have hc10 := h_c.net
  refine calls_enter Tryz.func45 rfl Tryz.ntmps45 rfl ?_
  refine .go 2 rfl ?_
  refine .ac (.box [v_c_words, v_c_cuts, .int .i64 c.workers, .int .i64 c.copies, .int .i64 c.slots, .int .i64 c.batch, .int .i64 c.lease, .int .i64 c.hedge, .int .i64 c.first, .int .i64 c.cap, .int .i64 c.jitter, .int .i64 c.net] rfl rfl fun w1 b1 hm1 hb1 hz1 hk1 => ?_)
  have hS2 := (hS0.newBk hm1 hb1 hk1).n1
  have f1 := hS2.bk (i := 0) rfl
  refine .go 6 rfl ?_
  refine .z (.loadN ti26 rfl (fun _ e => e ▸ f1.row) rfl) ?_
  have f2 := hS2.out h_c_words (fun _ _ h => h)
  have f3 := hS2.out h_c_cuts (fun _ _ h => h)
  refine .ac (.callF cl23 rfl (may_c (w0 := w1) (c := c)  (f2.iv (Nat.zero_le _) hS2.mod.size) (f3.iv (Nat.zero_le _) hS2.mod.size) q45_2) ?_)
  rintro _ w2 ⟨⟨b2, hb2, rfl⟩, hm2⟩
  have hS3 := hS2.ext hm2
  cases b2
  case true =>
    replace hb2 := hb2.symm
    have := Ml.may_bounds hb2
    refine .z (.not rfl) ?_
    refine .go 2 rfl ?_
    refine .zb (.lt rfl rfl) fun b3 hb3 => ?_
    refine .go 2 rfl ?_
    cases b3
    case true =>
      replace hb3 := dt hb3
      refine .gi 12 rfl ?_
      refine r_ret2 Tryz.func45 rfl rfl rfl ?_
      exact Ret.mk ⟨hS3.mod, .inl ⟨mayD_no q45_1, rfl⟩⟩
    replace hb3 := df hb3
    refine .go 1 rfl ?_
    refine .z (.fieldAddr fl26_2 rfl) ?_
    have f4 := hS3.bk (i := 0) rfl
    refine .z (.l1 ti3 f4) ?_
    refine .zb (.gt rfl rfl) fun b4 hb4 => ?_
    refine .gi 2 rfl ?_
    cases b4
    case true =>
      replace hb4 := dt hb4
      refine .gi 6 rfl ?_
      refine r_ret2 Tryz.func45 rfl rfl rfl ?_
      exact Ret.mk ⟨hS3.mod, .inl ⟨mayD_no q45_1, rfl⟩⟩
    replace hb4 := df hb4
    refine .go 4 rfl ?_
    refine .ac (.makeMap (key := intV) (val := ptrV) fun w3 b5 hm3 hb5 hz2 hk2 => ?_)
    have hS5 := (hS3.newMap hm3 hb5 hk2).n2
    refine .z (.build (vs := #[(0, (.map (some b5) : Value))]) (v := .agg #[.map (some b5), .int .i64 0]) rfl (fun _ => by kernel_rfl)) ?_
    refine .ac (.box [.map (some b5), .int .i64 0] rfl rfl fun w4 b6 hm4 hb6 hz3 hk3 => ?_)
    have hS7 := (hS5.newBk hm4 hb6 hk3).n3
    have hkl := keeps_len c worker
    have hS8 := (hS7.b2 [0] 2 1 (by rfl) (by decide)).n2
    have hS9 := (hS8.ty (dkK 164 123 5 b6 0 []) 1 rfl (fun F_ h_ => dkK_nil h_)).n2
    have f5 := hS9.bk (i := 0) rfl
    refine .go 5 rfl ?_
    refine .z (.loadN ti26 rfl (fun _ e => e ▸ f5.row) rfl) ?_
    have f6 := hS9.out h_c_words (fun _ _ h => h)
    have f7 := hS9.out h_c_cuts (fun _ _ h => h)
    refine .go 1 rfl ?_
    refine .ac (.callF cl25 rfl (keeps_c (w0 := w4) (c := c) (worker) (f6.iv (Nat.zero_le _) hS9.mod.size) (f7.iv (Nat.zero_le _) hS9.mod.size) q45_2 oa) ?_)
    rintro v1 w5 ⟨⟨gr1, h1, hg1⟩, hm5⟩
    have hS11 := (hS9.newAcc hm5 h1 hg1).n3
    clear hg1
    have hle_1 := h1.le
    have := keeps_len c worker
    obtain ⟨g1, f8, hl1, k1⟩ := hS11.accK (i := 2) rfl
    refine .z (.lenSl Tryz.underlying57 (f8.sl) rfl) ?_
    have hS13 := (hS11.sel [0, 2, 1] (by rfl) (by decide)).n3
    refine .gi 3 rfl ?_
    refine r_loop (I := fun m E W => ∃ (k : Nat), E = [(2, ptr b1 0), (6, ptr b6 0), (29, v1), (30, .int .i64 (((((Ml.keepsM c worker)).length : Nat) : Int))), (31, .int .i64 (((k : Nat) : Int)))] ∧ m = (keepsM c worker).length - k ∧ St (fun _ => False) (fun _ => False) w0 W [bkR b1 [v_c_words, v_c_cuts, .int .i64 c.workers, .int .i64 c.copies, .int .i64 c.slots, .int .i64 c.batch, .int .i64 c.lease, .int .i64 c.hedge, .int .i64 c.first, .int .i64 c.cap, .int .i64 c.jitter, .int .i64 c.net] 26, accR Ik.encI 3 1 v1 ((Ml.keepsM c worker)), dkK 164 123 5 b6 0 ((((keepsM c worker).take k).map (dkE c)))]) ?_ ?_
    · refine ⟨_, _, ⟨(0 : Nat), rfl, rfl, hS13⟩, ⟨rfl, rfl, rfl, rfl, rfl, trivial⟩⟩
    · rintro _ _ w6 ⟨k, rfl, rfl, hS12⟩ ih1
      refine .go 2 rfl ?_
      refine .zb (.lt rfl rfl) fun b7 hb7 => ?_
      refine .gi 2 rfl ?_
      cases b7
      case true =>
        replace hb7 := dt hb7
        obtain ⟨g2, f9, hl2, k2⟩ := hS12.accK (i := 1) rfl
        obtain ⟨x1, b8, o1, hx1, hr1, hl3, hw1⟩ := Sl.atF (P := Tryz.prog) f9.sl Tryz.underlying57 ti3 Ik.encI_len (k := .i64) (n := ((k : Nat) : Int)) (k) (by omega) ao
        refine .go 6 rfl ?_
        refine .z (.indexAddr rfl rfl hr1) ?_
        refine .z (.lr ti3 hw1) ?_
        have hx1r := keeps_range (List.mem_of_getElem? hx1)
        have hshl := Ml.shards_le c
        have hx1i : I64 x1 := by unfold I64; omega
        have f10 := hS12.bk (i := 0) rfl
        refine .go 4 rfl ?_
        refine .z (.loadN ti26 rfl (fun _ e => e ▸ f10.row) rfl) ?_
        have f11 := hS12.out h_c_words (fun _ _ h => h)
        have f12 := hS12.out h_c_cuts (fun _ _ h => h)
        refine .go 1 rfl ?_
        refine .ac (.callF cl91 rfl (pimage_c (w0 := w6) (c := c) (x1) (f11.iv (Nat.zero_le _) hS12.mod.size) (f12.iv (Nat.zero_le _) hS12.mod.size) q45_2 oa ao) ?_)
        rintro _ w7 ⟨v2, _, rfl, ⟨gr2, h2, hg2⟩, rfl, hm6⟩
        have hS15 := (hS12.newAcc hm6 h2 hg2).n4
        clear hg2
        have hle_2 := h2.le
        have := imgC_len c x1
        have := errC_rng c x1
        obtain ⟨Fy1, hAy1, hFy1, hky1⟩ := hS15.act (i := 2) rfl
        obtain ⟨D, bm, hD, hbx⟩ := dkK_op hAy1
        have hS16 : St (fun _ => False) (fun _ => False) w0 w7 [bkR b1 [v_c_words, v_c_cuts, .int .i64 c.workers, .int .i64 c.copies, .int .i64 c.slots, .int .i64 c.batch, .int .i64 c.lease, .int .i64 c.hedge, .int .i64 c.first, .int .i64 c.cap, .int .i64 c.jitter, .int .i64 c.net] 26, accR Ik.encI 3 1 v1 ((Ml.keepsM c worker)), boxR [bkR b6 [.map (some bm), .int .i64 0] 164, mapR intV ptrV bm (D.map fun x => (x.shard, x.ptr)), boxR (D.map (imR 123 5))], accR encB 5 1 v2 ((imgC c x1))] := hky1 _ _ _ (Mod.refl _ _) hbx (fun b hb => ⟨(hFy1 b hb).2, .inl hb⟩)
        clear hky1 hAy1 hbx
        have hS17 := (hS16.un 2 rfl [0, 1, 3] (by rfl) (by decide)).n6
        refine .gi 6 rfl ?_
        refine r_draw1 (fun i => Nat.beq i 7 || Nat.beq i 9 || Nat.beq i 10) 10 (fun w' => Mod (Mg 0) w7 w') mixed (by kernel_rfl) fun w8 hm7 => ?_
        have hS18 := hS17.ext hm7
        have hCw8 : Mod (Mg 0) w7 w8 := Mod.ofExt hm7
        refine ⟨hCw8, ?_⟩
        rw [show List.range' 0 (Array.size _) = [0, 1, 2, 3, 4, 5, 6, 7, 8, 9, 10] from rfl]
        refine .gd 2 rfl ?_
        refine .z rfl (.fieldAddr fl164_0 rfl) ?_
        have f13 := hS17.bk (i := 3) rfl
        refine .z rfl (.load1 ti162 rfl (fun _ hc => (f13.cell 0 _ rfl).keepG hc (Nat.succ_ne_zero _))) ?_
        obtain ⟨g3, f14, hl4, k3⟩ := hS18.accK (i := 2) rfl
        refine .gd 3 rfl ?_
        refine .ac rfl (.callF cl61 rfl (cloneB_c (w0 := w8) (s := (imgC c x1))  (f14.sl.iv (Nat.zero_le _) f14.lt) ao) ?_)
        rintro v3 w9 ⟨⟨gr3, h3, hg3⟩, hm8⟩
        have hS20 := (hS18.newAcc hm8 h3 hg3).n7
        clear hg3
        have hle_3 := h3.le
        have hCw9 := hCw8.ext hm8
        refine ⟨.inr hCw9, ?_⟩
        obtain ⟨g4, f15, hl5, k4⟩ := hS20.accK (i := 2) rfl
        obtain ⟨ad1, cp1, hv1⟩ := f15.shape
        subst hv1
        obtain ⟨g5, f16, hl6, k5⟩ := hS20.accK (i := 6) rfl
        obtain ⟨ad2, cp2, hv2⟩ := f16.shape
        subst hv2
        refine .z rfl (.build (vs := #[(0, (.slice ad1 ((imgC c x1)).length cp1)), (1, (.slice ad2 ((((imgC c x1)))).length cp2))]) (v := .agg #[(.slice ad1 ((imgC c x1)).length cp1), (.slice ad2 ((((imgC c x1)))).length cp2)]) rfl (fun _ => by kernel_rfl)) ?_
        refine .ac rfl (.box [(.slice ad1 ((imgC c x1)).length cp1), (.slice ad2 ((((imgC c x1)))).length cp2)] rfl rfl fun w10 b9 hm9 hb8 hz4 hk4 => ?_)
        have hS22 := (hS20.newBk hm9 hb8 hk4).n8
        have hCw10 := hCw9.ext hm9
        refine ⟨.inr hCw10, ?_⟩
        have f17 := hS22.map (i := 4) rfl
        refine .ac rfl (.mapNew (key := intV) (val := ptrV) (u := b9) (keyOk_int Tryz.underlying3) Tryz.underlying162 rfl rfl rfl f17 (asc_none (dkE_fresh (keeps_nodup c worker) hx1 hD)) fun w11 hm10 hz5 hk5 => ?_)
        have hS23 := (hS22.mapK (i := 4) rfl hm10 hk5).n8
        refine ⟨.inl rfl, ?_⟩
        refine .nil ?_
        have hS24 := (hS23.b3 [0, 1, 3, 4, 5] 7 2 6 (by rfl) (by decide)).n6
        have hS25 := (hS24.exi (A := fun vs : Value × Value => boxR [bkR b9 [vs.1, vs.2] 123, accR encB 5 1 vs.1 (imgC c x1), accR encB 5 1 vs.2 (imgC c x1)]) ((.slice ad1 ((imgC c x1)).length cp1), (.slice ad2 ((((imgC c x1)))).length cp2)) (i := 5) rfl).n6
        have hS26 := (hS25.b4 [0, 1] 2 3 4 5 (by rfl) (by decide)).n3
        have hS27 := (hS26.ty (dkK 164 123 5 b6 0 ((((keepsM c worker).take (k + 1)).map (dkE c)))) 2 rfl (fun F_ h_ => (by rw [← dkE_step hx1]; exact dkK_push (y := (DI.mk x1 b9 (imgC c x1) (imgC c x1))) hD rfl h_))).n3
        refine .go 2 rfl ?_
        refine .z (.addI (((k + 1 : Nat) : Int)) rfl rfl (by omega)) ?_
        refine .gi 2 rfl ?_
        exact (ih1 _ _ _ ⟨(k + 1 : Nat), rfl, rfl, hS27⟩ (by omega)).sub ⟨rfl, rfl, rfl, rfl, rfl, trivial⟩
      replace hb7 := df hb7
      refine .gi 8 rfl ?_
      refine r_ret2 Tryz.func45 rfl rfl rfl ?_
      have hS14 := (hS12.sel [2] (by rfl) (by decide)).n1
      have hall : (((keepsM c worker).take k).map (dkE c)) = dkNew c worker := by rw [List.take_of_length_le (by omega)]; rfl
      rw [hall] at hS14
      obtain ⟨hmF, F2r, hAr, hFr⟩ := hS14.fin
      exact Ret.mk ⟨hmF, .inr ⟨mayD_yes (by first | assumption | (symm; assumption)) (by omega) (by omega), _, F2r, rfl, hAr, fun b hb => ⟨(hFr b hb).1, (hFr b hb).2.resolve_left id⟩⟩⟩
  replace hb2 := hb2.symm
  refine .z (.not rfl) ?_
  refine .gi 17 rfl ?_
  refine r_ret2 Tryz.func45 rfl rfl rfl ?_
  exact Ret.mk ⟨hS3.mod, .inl ⟨mayD_no q45_1, rfl⟩⟩
end Go.Proofs
