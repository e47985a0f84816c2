/-
  Texts cut and split, numbers.
-/
import Derived.Test.YtnikbecfjbjbbaaDoorWQuote
set_option linter.unusedVariables false
set_option linter.unusedSimpArgs false
namespace Go.Proofs
open Go.Ik Go.Ml
abbrev gB : Nat := 1
abbrev gS : Nat := 4
abbrev gR : Nat := 5
def Tryd.layItoa_ren : Go.Shelf.Ren := ⟨fun | 171 => 51 | 243 => 59 | 246 => 67 | 283 => 74 | 284 => 75 | 285 => 76 | 286 => 77 | 129 => 85 | 317 => 84 | 318 => 86 | 319 => 87 | 320 => 88 | 337 => 92 | 338 => 93 | n => n, fun | 3 => 3 | 9 => 9 | 2 => 2 | 4 => 4 | 171 => 109 | 0 => 0 | 53 => 110 | 37 => 52 | 5 => 5 | 173 => 113 | 212 => 122 | 51 => 102 | 20 => 20 | 213 => 123 | 46 => 99 | 232 => 140 | 233 => 141 | n => n, fun | 17 => 1 | 18 => 6 | 19 => 7 | n => n⟩
theorem Tryd.layItoa : Go.Proofs.LaysM.n171 Tryd.prog Tryd.layItoa_ren := {
  mixed := by kernel_rfl,
  f129 := Tryd.func85.trans (congrArg some (by kernel_rfl)),
  f171 := Tryd.func51.trans (congrArg some (by kernel_rfl)),
  f243 := Tryd.func59.trans (congrArg some (by kernel_rfl)),
  f246 := Tryd.func67.trans (congrArg some (by kernel_rfl)),
  f283 := Tryd.func74.trans (congrArg some (by kernel_rfl)),
  f284 := Tryd.func75.trans (congrArg some (by kernel_rfl)),
  f285 := Tryd.func76.trans (congrArg some (by kernel_rfl)),
  f286 := Tryd.func77.trans (congrArg some (by kernel_rfl)),
  f317 := Tryd.func84.trans (congrArg some (by kernel_rfl)),
  f318 := Tryd.func86.trans (congrArg some (by kernel_rfl)),
  f319 := Tryd.func87.trans (congrArg some (by kernel_rfl)),
  f320 := Tryd.func88.trans (congrArg some (by kernel_rfl)),
  f337 := Tryd.func92.trans (congrArg some (by kernel_rfl)),
  f338 := Tryd.func93.trans (congrArg some (by kernel_rfl)),
  t0 := Tryd.underlying0,
  a0 := Tryd.isAgg0,
  z0 := Tryd.sizeOf0,
  v0 := Tryd.zeroValue0,
  t2 := Tryd.underlying2,
  a2 := Tryd.isAgg2,
  z2 := Tryd.sizeOf2,
  v2 := Tryd.zeroValue2,
  t3 := Tryd.underlying3,
  a3 := Tryd.isAgg3,
  z3 := Tryd.sizeOf3,
  v3 := Tryd.zeroValue3,
  t4 := Tryd.underlying4,
  a4 := Tryd.isAgg4,
  z4 := Tryd.sizeOf4,
  v4 := Tryd.zeroValue4,
  t5 := Tryd.underlying5,
  a5 := Tryd.isAgg5,
  z5 := Tryd.sizeOf5,
  v5 := Tryd.zeroValue5,
  t9 := Tryd.underlying9,
  a9 := Tryd.isAgg9,
  z9 := Tryd.sizeOf9,
  v9 := Tryd.zeroValue9,
  t20 := Tryd.underlying20,
  a20 := Tryd.isAgg20,
  z20 := Tryd.sizeOf20,
  v20 := Tryd.zeroValue20,
  t37 := Tryd.underlying52,
  a37 := Tryd.isAgg52,
  z37 := Tryd.sizeOf52,
  v37 := Tryd.zeroValue52,
  t46 := Tryd.underlying99,
  a46 := Tryd.isAgg99,
  z46 := Tryd.sizeOf99,
  v46 := Tryd.zeroValue99,
  t51 := Tryd.underlying102,
  a51 := Tryd.isAgg102,
  z51 := Tryd.sizeOf102,
  v51 := Tryd.zeroValue102,
  t53 := Tryd.underlying110,
  a53 := Tryd.isAgg110,
  z53 := Tryd.sizeOf110,
  v53 := Tryd.zeroValue110,
  t171 := Tryd.underlying109,
  a171 := Tryd.isAgg109,
  z171 := Tryd.sizeOf109,
  v171 := Tryd.zeroValue109,
  t173 := Tryd.underlying113,
  a173 := Tryd.isAgg113,
  z173 := Tryd.sizeOf113,
  v173 := Tryd.zeroValue113,
  t212 := Tryd.underlying122,
  a212 := Tryd.isAgg122,
  z212 := Tryd.sizeOf122,
  v212 := Tryd.zeroValue122,
  t213 := Tryd.underlying123,
  a213 := Tryd.isAgg123,
  z213 := Tryd.sizeOf123,
  t232 := Tryd.underlying140,
  a232 := Tryd.isAgg140,
  z232 := Tryd.sizeOf140,
  v232 := Tryd.zeroValue140,
  t233 := Tryd.underlying141,
  a233 := Tryd.isAgg141,
  z233 := Tryd.sizeOf141,
  v233 := Tryd.zeroValue141,
  g17 := by kernel_rfl,
  g18 := by kernel_rfl,
  g19 := by kernel_rfl,
  i0 := by kernel_rfl,
  i2 := by kernel_rfl,
  i3 := by kernel_rfl,
  i4 := by kernel_rfl,
  i5 := by kernel_rfl,
  i9 := by kernel_rfl,
  i20 := by kernel_rfl,
  i37 := by kernel_rfl,
  i46 := by kernel_rfl,
  i51 := by kernel_rfl,
  i53 := by kernel_rfl,
  i171 := by kernel_rfl,
  i173 := by kernel_rfl,
  i212 := by kernel_rfl,
  i232 := by kernel_rfl,
  i233 := by kernel_rfl,
  m17 := by kernel_rfl,
  m18 := by kernel_rfl,
  m19 := by kernel_rfl }
def Tryd.layAtoi_ren : Go.Shelf.Ren := ⟨fun | 172 => 66 | 244 => 72 | 245 => 73 | 247 => 79 | 279 => 80 | 280 => 81 | 281 => 82 | 282 => 83 | 287 => 89 | 316 => 90 | 171 => 51 | 205 => 91 | 321 => 94 | 322 => 95 | 243 => 59 | 246 => 67 | 283 => 74 | 284 => 75 | 285 => 76 | 286 => 77 | 129 => 85 | 317 => 84 | 318 => 86 | 319 => 87 | 320 => 88 | 337 => 92 | 338 => 93 | n => n, fun | 9 => 9 | 3 => 3 | 75 => 56 | 76 => 59 | 4 => 4 | 5 => 5 | 167 => 115 | 37 => 52 | 0 => 0 | 85 => 116 | 2 => 2 | 168 => 118 | 53 => 110 | 175 => 130 | 46 => 99 | 210 => 133 | 127 => 85 | 145 => 139 | 143 => 137 | 21 => 21 | 171 => 109 | 173 => 113 | 212 => 122 | 51 => 102 | 20 => 20 | 213 => 123 | 232 => 140 | 233 => 141 | 80 => 61 | n => n, fun | 15 => 4 | 16 => 5 | 17 => 1 | 18 => 6 | 19 => 7 | n => n⟩
theorem Tryd.layAtoi : Go.Proofs.LaysC.n172 Tryd.prog Tryd.layAtoi_ren := {
  mixed := by kernel_rfl,
  f129 := Tryd.func85.trans (congrArg some (by kernel_rfl)),
  f171 := Tryd.func51.trans (congrArg some (by kernel_rfl)),
  f172 := Tryd.func66.trans (congrArg some (by kernel_rfl)),
  f205 := Tryd.func91.trans (congrArg some (by kernel_rfl)),
  f243 := Tryd.func59.trans (congrArg some (by kernel_rfl)),
  f244 := Tryd.func72.trans (congrArg some (by kernel_rfl)),
  f245 := Tryd.func73.trans (congrArg some (by kernel_rfl)),
  f246 := Tryd.func67.trans (congrArg some (by kernel_rfl)),
  f247 := Tryd.func79.trans (congrArg some (by kernel_rfl)),
  f279 := Tryd.func80.trans (congrArg some (by kernel_rfl)),
  f280 := Tryd.func81.trans (congrArg some (by kernel_rfl)),
  f281 := Tryd.func82.trans (congrArg some (by kernel_rfl)),
  f282 := Tryd.func83.trans (congrArg some (by kernel_rfl)),
  f283 := Tryd.func74.trans (congrArg some (by kernel_rfl)),
  f284 := Tryd.func75.trans (congrArg some (by kernel_rfl)),
  f285 := Tryd.func76.trans (congrArg some (by kernel_rfl)),
  f286 := Tryd.func77.trans (congrArg some (by kernel_rfl)),
  f287 := Tryd.func89.trans (congrArg some (by kernel_rfl)),
  f316 := Tryd.func90.trans (congrArg some (by kernel_rfl)),
  f317 := Tryd.func84.trans (congrArg some (by kernel_rfl)),
  f318 := Tryd.func86.trans (congrArg some (by kernel_rfl)),
  f319 := Tryd.func87.trans (congrArg some (by kernel_rfl)),
  f320 := Tryd.func88.trans (congrArg some (by kernel_rfl)),
  f321 := Tryd.func94.trans (congrArg some (by kernel_rfl)),
  f322 := Tryd.func95.trans (congrArg some (by kernel_rfl)),
  f337 := Tryd.func92.trans (congrArg some (by kernel_rfl)),
  f338 := Tryd.func93.trans (congrArg some (by kernel_rfl)),
  t0 := Tryd.underlying0,
  a0 := Tryd.isAgg0,
  z0 := Tryd.sizeOf0,
  v0 := Tryd.zeroValue0,
  t2 := Tryd.underlying2,
  a2 := Tryd.isAgg2,
  z2 := Tryd.sizeOf2,
  v2 := Tryd.zeroValue2,
  t3 := Tryd.underlying3,
  a3 := Tryd.isAgg3,
  z3 := Tryd.sizeOf3,
  v3 := Tryd.zeroValue3,
  t4 := Tryd.underlying4,
  a4 := Tryd.isAgg4,
  z4 := Tryd.sizeOf4,
  v4 := Tryd.zeroValue4,
  t5 := Tryd.underlying5,
  a5 := Tryd.isAgg5,
  z5 := Tryd.sizeOf5,
  v5 := Tryd.zeroValue5,
  t9 := Tryd.underlying9,
  a9 := Tryd.isAgg9,
  z9 := Tryd.sizeOf9,
  v9 := Tryd.zeroValue9,
  t20 := Tryd.underlying20,
  a20 := Tryd.isAgg20,
  z20 := Tryd.sizeOf20,
  v20 := Tryd.zeroValue20,
  t21 := Tryd.underlying21,
  a21 := Tryd.isAgg21,
  z21 := Tryd.sizeOf21,
  v21 := Tryd.zeroValue21,
  t37 := Tryd.underlying52,
  a37 := Tryd.isAgg52,
  z37 := Tryd.sizeOf52,
  v37 := Tryd.zeroValue52,
  t46 := Tryd.underlying99,
  a46 := Tryd.isAgg99,
  z46 := Tryd.sizeOf99,
  v46 := Tryd.zeroValue99,
  t51 := Tryd.underlying102,
  a51 := Tryd.isAgg102,
  z51 := Tryd.sizeOf102,
  v51 := Tryd.zeroValue102,
  t53 := Tryd.underlying110,
  a53 := Tryd.isAgg110,
  z53 := Tryd.sizeOf110,
  v53 := Tryd.zeroValue110,
  t75 := Tryd.underlying56,
  a75 := Tryd.isAgg56,
  z75 := Tryd.sizeOf56,
  v75 := Tryd.zeroValue56,
  t76 := Tryd.underlying59,
  a76 := Tryd.isAgg59,
  z76 := Tryd.sizeOf59,
  v76 := Tryd.zeroValue59,
  t85 := Tryd.underlying116,
  a85 := Tryd.isAgg116,
  z85 := Tryd.sizeOf116,
  v85 := Tryd.zeroValue116,
  t127 := Tryd.underlying85,
  a127 := Tryd.isAgg85,
  z127 := Tryd.sizeOf85,
  v127 := Tryd.zeroValue85,
  t143 := Tryd.underlying137,
  a143 := Tryd.isAgg137,
  z143 := Tryd.sizeOf137,
  v143 := Tryd.zeroValue137,
  t145 := Tryd.underlying139,
  a145 := Tryd.isAgg139,
  z145 := Tryd.sizeOf139,
  v145 := Tryd.zeroValue139,
  t167 := Tryd.underlying115,
  a167 := Tryd.isAgg115,
  z167 := Tryd.sizeOf115,
  v167 := Tryd.zeroValue115,
  t168 := Tryd.underlying118,
  a168 := Tryd.isAgg118,
  z168 := Tryd.sizeOf118,
  v168 := Tryd.zeroValue118,
  t171 := Tryd.underlying109,
  a171 := Tryd.isAgg109,
  z171 := Tryd.sizeOf109,
  v171 := Tryd.zeroValue109,
  t173 := Tryd.underlying113,
  a173 := Tryd.isAgg113,
  z173 := Tryd.sizeOf113,
  v173 := Tryd.zeroValue113,
  t175 := Tryd.underlying130,
  a175 := Tryd.isAgg130,
  z175 := Tryd.sizeOf130,
  v175 := Tryd.zeroValue130,
  t210 := Tryd.underlying133,
  a210 := Tryd.isAgg133,
  z210 := Tryd.sizeOf133,
  v210 := Tryd.zeroValue133,
  t212 := Tryd.underlying122,
  a212 := Tryd.isAgg122,
  z212 := Tryd.sizeOf122,
  v212 := Tryd.zeroValue122,
  t213 := Tryd.underlying123,
  a213 := Tryd.isAgg123,
  z213 := Tryd.sizeOf123,
  t232 := Tryd.underlying140,
  a232 := Tryd.isAgg140,
  z232 := Tryd.sizeOf140,
  v232 := Tryd.zeroValue140,
  t233 := Tryd.underlying141,
  a233 := Tryd.isAgg141,
  z233 := Tryd.sizeOf141,
  v233 := Tryd.zeroValue141,
  g15 := by kernel_rfl,
  g16 := by kernel_rfl,
  g17 := by kernel_rfl,
  g18 := by kernel_rfl,
  g19 := by kernel_rfl,
  t80 := Tryd.underlying61,
  a80 := Tryd.isAgg61,
  z80 := Tryd.sizeOf61,
  v80 := Tryd.zeroValue61,
  i0 := by kernel_rfl,
  i2 := by kernel_rfl,
  i3 := by kernel_rfl,
  i4 := by kernel_rfl,
  i5 := by kernel_rfl,
  i9 := by kernel_rfl,
  i20 := by kernel_rfl,
  i21 := by kernel_rfl,
  i37 := by kernel_rfl,
  i46 := by kernel_rfl,
  i51 := by kernel_rfl,
  i53 := by kernel_rfl,
  i75 := by kernel_rfl,
  i76 := by kernel_rfl,
  i80 := by kernel_rfl,
  i85 := by kernel_rfl,
  i127 := by kernel_rfl,
  i143 := by kernel_rfl,
  i145 := by kernel_rfl,
  i167 := by kernel_rfl,
  i168 := by kernel_rfl,
  i171 := by kernel_rfl,
  i173 := by kernel_rfl,
  i175 := by kernel_rfl,
  i210 := by kernel_rfl,
  i212 := by kernel_rfl,
  i232 := by kernel_rfl,
  i233 := by kernel_rfl,
  m15 := by kernel_rfl,
  m16 := by kernel_rfl,
  m17 := by kernel_rfl,
  m18 := by kernel_rfl,
  m19 := by kernel_rfl,
  c0 := by kernel_rfl,
  c2 := by kernel_rfl,
  c3 := by kernel_rfl,
  c4 := by kernel_rfl,
  c5 := by kernel_rfl,
  c9 := by kernel_rfl,
  c20 := by kernel_rfl,
  c21 := by kernel_rfl,
  c37 := by kernel_rfl,
  c46 := by kernel_rfl,
  c51 := by kernel_rfl,
  c53 := by kernel_rfl,
  c75 := by kernel_rfl,
  c76 := by kernel_rfl,
  c80 := by kernel_rfl,
  c85 := by kernel_rfl,
  c127 := by kernel_rfl,
  c143 := by kernel_rfl,
  c145 := by kernel_rfl,
  c167 := by kernel_rfl,
  c168 := by kernel_rfl,
  c171 := by kernel_rfl,
  c173 := by kernel_rfl,
  c175 := by kernel_rfl,
  c210 := by kernel_rfl,
  c212 := by kernel_rfl,
  c213 := by kernel_rfl,
  c232 := by kernel_rfl,
  c233 := by kernel_rfl }
abbrev GS (w : World) : Prop := GlobS Tryd.prog gS gR w
theorem hgp : Tryd.prog.globalNamed "internal/strconv.uint64pow10" = some gB := by kernel_rfl
theorem itoa_c {w0 : World} (n : Int) (hn : I64 n) (hG : GS w0) : Calls Tryd.prog 51 #[.int .i64 n] w0 (Ret fun rv w1 => rv = strV (Lib.itoa n) ∧ Ext w0 w1) := itoa_own Tryd.layItoa n hn hG
theorem atoi_c {w0 : World} (s : Str) (hs : s.length ≤ 1000000) (hG : GS w0) : Calls Tryd.prog 66 #[strV s] w0 (Ret fun rv w1 => ∃ (n : Int) (e : Value), rv = .tuple #[.int .i64 n, e] ∧ (Lib.atoiAll s = .ok n ∧ I64 n ∧ e = .nilIface ∨ (∀ v, Lib.atoiAll s ≠ .ok v) ∧ I64 n ∧ ∃ t p, e = .iface t p) ∧ Ext w0 w1) := atoi_own Tryd.layAtoi s hs hG
set_option maxRecDepth 20000 in
set_option maxHeartbeats 4000000 in
theorem slix_c {w0 : World}  (s : Str) (c : UInt8) (hsl : s.length ≤ 1000000) :
    Calls Tryd.prog 55 #[strV s, strV (([c] : Str))] w0 (Ret fun rv w1 => rv = .int .i64 (Lib.indexByte s c) ∧ Ext w0 w1) := by
  have hS0 := St.start0 w0
  refine calls_enter Tryd.func55 rfl Tryd.ntmps55 rfl ?_
  refine r_seq ?_
  refine r_region ?_
  refine OL.q (Q1.assign rfl) rfl rfl ?_
  refine OL.nil ?_
  refine r_seq ?_
  refine r_region ?_
  refine OL.q (Q1.move rfl) rfl rfl ?_
  refine OL.q (Q1.lenS Tryd.underlying9 rfl) rfl rfl ?_
  refine OL.q (Q1.assign rfl) rfl rfl ?_
  refine OL.nil ?_
  refine r_seq ?_
  refine r_block ?_
  refine r_seq ?_
  refine r_region ?_
  refine OL.q (Q1.move rfl) rfl rfl ?_
  refine OL.qb (Q1.eq rfl rfl) rfl rfl ?_
  intro b1 hb1
  obtain rfl : b1 = false := hb1.trans (by rfl)
  refine OL.q (Q1.move rfl) rfl rfl ?_
  refine OL.q (Q1.move rfl) rfl rfl ?_
  refine OL.q (Q1.move rfl) rfl rfl ?_
  refine OL.qb (Q1.eqS rfl rfl) rfl rfl ?_
  intro b2 hb2
  refine OL.q (Q1.pick_f rfl rfl) rfl rfl ?_
  refine OL.q (Q1.assign rfl) rfl rfl ?_
  refine OL.nil ?_
  cases b2 with
  | true =>
    replace hb2 := eq_of_beq hb2.symm
    refine r_cond_t rfl ?_
    refine r_seq ?_
    refine r_region ?_
    refine OL.q (Q1.assign rfl) rfl rfl ?_
    refine OL.nil ?_
    refine r_ret1 Tryd.func55 rfl rfl ?_
    exact Ret.mk ⟨(congrArg (Value.int .i64) (by first | exact ixb_self (by assumption) | rfl | (exfalso; omega))), hS0.mod⟩
  | false =>
    replace hb2 := ne_of_beq_false hb2.symm
    refine r_cond_f rfl ?_
    refine r_seq ?_
    refine r_region ?_
    refine OL.q (Q1.move rfl) rfl rfl ?_
    refine OL.qb (Q1.eq rfl rfl) rfl rfl ?_
    intro b3 hb3
    obtain rfl : b3 = true := hb3.trans (by rfl)
    refine OL.q (Q1.assign rfl) rfl rfl ?_
    refine OL.nil ?_
    refine r_cond_t rfl ?_
    refine r_seq ?_
    refine r_region ?_
    refine OL.q (Q1.move rfl) rfl rfl ?_
    refine OL.q (Q1.move rfl) rfl rfl ?_
    refine OL.q (Q1.indexBt (0) Tryd.underlying9 rfl rfl (by omega) (by first | assumption | omega | (simp; done) | (simp; omega))) rfl rfl ?_
    refine OL.act rfl rfl (AW.callF cl42 rfl (slixb_c (w0 := w0)  s ((btAt (([c] : Str)) 0)) ) ?_)
    rintro _ w1 ⟨rfl, hm1⟩
    have hS1 := hS0.ext hm1
    refine OL.q (Q1.assign rfl) rfl rfl ?_
    refine OL.nil ?_
    refine r_ret1 Tryd.func55 rfl rfl ?_
    exact Ret.mk ⟨(congrArg (Value.int .i64) (by first | exact ixb_self (by assumption) | rfl | (exfalso; omega))), hS1.mod⟩
set_option maxRecDepth 20000 in
set_option maxHeartbeats 4000000 in
theorem stix_c {w0 : World}  (s : Str) (c : UInt8) (hsl : s.length ≤ 1000000) :
    Calls Tryd.prog 65 #[strV s, strV (([c] : Str))] w0 (Ret fun rv w1 => rv = .int .i64 (Lib.indexByte s c) ∧ Ext w0 w1) := by
  have hS0 := St.start0 w0
  refine calls_enter Tryd.func65 rfl Tryd.ntmps65 rfl ?_
  refine r_seq ?_
  refine r_region ?_
  refine OL.q (Q1.assign rfl) rfl rfl ?_
  refine OL.nil ?_
  refine r_seq ?_
  refine r_region ?_
  refine OL.q (Q1.move rfl) rfl rfl ?_
  refine OL.q (Q1.move rfl) rfl rfl ?_
  refine OL.act rfl rfl (AW.callF cl55 rfl (slix_c (w0 := w0)  s (c : UInt8) (by first | assumption | omega)) ?_)
  rintro _ w1 ⟨rfl, hm1⟩
  have hS1 := hS0.ext hm1
  refine OL.q (Q1.assign rfl) rfl rfl ?_
  refine OL.nil ?_
  refine r_ret1 Tryd.func65 rfl rfl ?_
  exact Ret.mk ⟨(congrArg (Value.int .i64) (by rfl)), hS1.mod⟩
set_option maxRecDepth 20000 in
set_option maxHeartbeats 4000000 in
theorem stcnt_c {w0 : World}  (s : Str) (c : UInt8) (hsl : s.length ≤ 1000000) :
    Calls Tryd.prog 64 #[strV s, strV (([c] : Str))] w0 (Ret fun rv w1 => rv = .int .i64 (((s.count c : Nat) : Int)) ∧ Ext w0 w1) := by
  have hS0 := St.start0 w0
  refine calls_enter Tryd.func64 rfl Tryd.ntmps64 rfl ?_
  refine r_seq ?_
  refine r_region ?_
  refine OL.q (Q1.assign rfl) rfl rfl ?_
  refine OL.nil ?_
  refine r_seq ?_
  refine r_seq ?_
  refine r_region ?_
  refine OL.q (Q1.move rfl) rfl rfl ?_
  refine OL.q (Q1.lenS Tryd.underlying9 rfl) rfl rfl ?_
  refine OL.qb (Q1.eq rfl rfl) rfl rfl ?_
  intro b1 hb1
  obtain rfl : b1 = false := hb1.trans (by rfl)
  refine OL.nil ?_
  refine r_cond_f rfl ?_
  refine r_skip ?_
  refine r_seq ?_
  refine r_seq ?_
  refine r_region ?_
  refine OL.q (Q1.move rfl) rfl rfl ?_
  refine OL.q (Q1.lenS Tryd.underlying9 rfl) rfl rfl ?_
  refine OL.qb (Q1.eq rfl rfl) rfl rfl ?_
  intro b2 hb2
  obtain rfl : b2 = true := hb2.trans (by rfl)
  refine OL.nil ?_
  refine r_cond_t rfl ?_
  refine r_seq ?_
  refine r_region ?_
  refine OL.q (Q1.move rfl) rfl rfl ?_
  refine OL.q (Q1.move rfl) rfl rfl ?_
  refine OL.q (Q1.indexBt (0) Tryd.underlying9 rfl rfl (by omega) (by first | assumption | omega | (simp; done) | (simp; omega))) rfl rfl ?_
  refine OL.act rfl rfl (AW.callX Tryd.func71 (by kernel_rfl) (by kernel_rfl) (by kernel_rfl) (e := Extern.BytealgCount.count) (by kernel_rfl) rfl (run_countS s ((btAt (([c] : Str)) 0)) _) ?_)
  refine OL.q (Q1.assign rfl) rfl rfl ?_
  refine OL.nil ?_
  refine r_ret1 Tryd.func64 rfl rfl ?_
  exact Ret.mk ⟨(congrArg (Value.int .i64) (by rfl)), hS0.mod⟩
set_option maxRecDepth 20000 in
set_option maxHeartbeats 4000000 in
theorem gspl_c {w0 : World}  (s : Str) (c : UInt8) (hsl : s.length ≤ 1000000) :
    Calls Tryd.prog 56 #[strV s, strV (([c] : Str)), .int .i64 0, .int .i64 ((-1))] w0 (Ret fun rv w1 => Sl encS w1 (Iv w0.heap.size w1.heap.size) rv (splitM c s) ∧ Ext w0 w1) := by
  have hc1 : ([c] : Str).length = 1 := rfl
  have hS0 := St.start0 w0
  refine calls_enter Tryd.func56 rfl Tryd.ntmps56 rfl ?_
  refine r_seq ?_
  refine r_region ?_
  refine OL.q (Q1.assign rfl) rfl rfl ?_
  refine OL.nil ?_
  refine r_seq ?_
  refine r_seq ?_
  refine r_region ?_
  refine OL.q (Q1.move rfl) rfl rfl ?_
  refine OL.qb (Q1.eq rfl rfl) rfl rfl ?_
  intro b1 hb1
  obtain rfl : b1 = false := hb1.trans (by rfl)
  refine OL.nil ?_
  refine r_cond_f rfl ?_
  refine r_skip ?_
  refine r_seq ?_
  refine r_seq ?_
  refine r_region ?_
  refine OL.q (Q1.move rfl) rfl rfl ?_
  refine OL.qb (Q1.eqS rfl rfl) rfl rfl ?_
  intro b2 hb2
  obtain rfl : b2 = false := hb2.trans (by rfl)
  refine OL.nil ?_
  refine r_cond_f rfl ?_
  refine r_skip ?_
  refine r_seq ?_
  refine r_seq ?_
  refine r_region ?_
  refine OL.q (Q1.move rfl) rfl rfl ?_
  refine OL.qb (Q1.lt rfl rfl) rfl rfl ?_
  intro b3 hb3
  obtain rfl : b3 = true := hb3.trans (by rfl)
  refine OL.nil ?_
  refine r_cond_t rfl ?_
  refine r_region ?_
  refine OL.q (Q1.move rfl) rfl rfl ?_
  refine OL.q (Q1.move rfl) rfl rfl ?_
  refine OL.act rfl rfl (AW.callF cl64 rfl (stcnt_c (w0 := w0)  s (c : UInt8) (by first | assumption | omega)) ?_)
  rintro _ w1 ⟨rfl, hm1⟩
  have hS1 := hS0.ext hm1
  have hcl : s.count c ≤ s.length := List.count_le_length
  refine OL.q (Q1.addI ((((s.count ((c : UInt8))) + 1 : Nat) : Int)) rfl rfl (by omega)) rfl rfl ?_
  refine OL.q (Q1.assign rfl) rfl rfl ?_
  refine OL.nil ?_
  refine r_seq ?_
  refine r_region ?_
  refine OL.q (Q1.move rfl) rfl rfl ?_
  refine OL.q (Q1.move rfl) rfl rfl ?_
  refine OL.q (Q1.lenS Tryd.underlying9 rfl) rfl rfl ?_
  refine OL.q (Q1.addI (((s.length + 1 : Nat) : Int)) rfl rfl (by omega)) rfl rfl ?_
  refine OL.q (Q1.min rfl rfl) rfl rfl ?_
  rw [show (min ((((s.count ((c : UInt8))) + 1 : Nat) : Int)) (((s.length + 1 : Nat) : Int))) = (((s.count c + 1 : Nat) : Int) : Int) from by omega]
  refine OL.q (Q1.assign rfl) rfl rfl ?_
  refine OL.nil ?_
  refine r_seq ?_
  refine r_region ?_
  refine OL.q (Q1.move rfl) rfl rfl ?_
  refine OL.act rfl rfl (AW.makeSlice (enc := encS) (s.count c + 1) ([] : Str) Tryd.underlying27 ti9 (by decide) rfl encS_len rfl rfl (by omega) (by omega) (by omega) (by unfold maxLen; omega) ?_)
  intro v1 g1 w2 hm2 hg1 hz1 ha1
  have hS2 := hS1.ext hm2
  have hr1 : (List.replicate (s.count c + 1) ([] : Str)).length = s.count c + 1 := List.length_replicate
  have hS3 : St (fun _ => False) (fun _ => False) w0 w2 [accR encS 9 1 v1 ((List.replicate (s.count c + 1) ([] : Str)))] := hS1.newAcc hm2 ha1 (.inr (by omega))
  refine OL.q (Q1.assign rfl) rfl rfl ?_
  refine OL.nil ?_
  refine r_seq ?_
  refine r_region ?_
  refine OL.q (Q1.move rfl) rfl rfl ?_
  refine OL.q (Q1.subI ((((s.count c + 1 : Nat) : Int) - 1)) rfl rfl (by omega)) rfl rfl ?_
  rw [show (((s.count c + 1 : Nat) : Int) - 1) = (((s.count c : Nat) : Int) : Int) from by omega]
  refine OL.q (Q1.assign rfl) rfl rfl ?_
  refine OL.nil ?_
  refine r_seq ?_
  refine r_region ?_
  refine OL.q (Q1.assign rfl) rfl rfl ?_
  refine OL.nil ?_
  refine r_seq ?_
  refine r_block ?_
  refine r_loop (I := fun m E W => ∃ (t : Str) (a : List Str) (i : Nat), E = [(0, strV t), (1, strV (([c] : Str))), (2, .int .i64 0), (3, .int .i64 (((s.count c : Nat) : Int))), (9, v1), (10, .int .i64 (((i : Nat) : Int)))] ∧ m = s.count c - i ∧ St (fun _ => False) (fun _ => False) w0 W [accR encS 9 1 v1 a] ∧ (SpAt c s t i a)) ?_ ?_
  · refine ⟨_, _, ⟨(s : Str), ((List.replicate (s.count c + 1) ([] : Str)) : List Str), (0 : Nat), rfl, rfl, hS3, (by exact SpAt.start _ _)⟩, ⟨rfl, rfl, rfl, rfl, rfl, rfl, trivial⟩⟩
  · rintro _ _ w3 ⟨t, a, i, rfl, rfl, hS4, hA⟩ ih1
    have hal := hA.len
    have hac := hA.cnt
    have hae := hA.le
    refine r_seq ?_
    refine r_seq ?_
    refine r_region ?_
    refine OL.q (Q1.move rfl) rfl rfl ?_
    refine OL.q (Q1.move rfl) rfl rfl ?_
    refine OL.qb (Q1.lt rfl rfl) rfl rfl ?_
    intro b4 hb4
    refine OL.nil ?_
    cases b4 with
    | true =>
      replace hb4 := of_decide_eq_true hb4.symm
      refine r_cond_t rfl ?_
      refine r_skip ?_
      refine r_block ?_
      refine r_seq ?_
      refine r_region ?_
      refine OL.q (Q1.move rfl) rfl rfl ?_
      refine OL.q (Q1.move rfl) rfl rfl ?_
      refine OL.act rfl rfl (AW.callF cl65 rfl (stix_c (w0 := w3)  t (c : UInt8) (by first | assumption | omega)) ?_)
      rintro _ w4 ⟨rfl, hm3⟩
      have hS5 := hS4.ext hm3
      have hir := ixb_rng t c
      refine OL.q (Q1.assign rfl) rfl rfl ?_
      refine OL.nil ?_
      refine r_seq ?_
      refine r_seq ?_
      refine r_region ?_
      refine OL.q (Q1.move rfl) rfl rfl ?_
      refine OL.qb (Q1.lt rfl rfl) rfl rfl ?_
      intro b5 hb5
      refine OL.nil ?_
      cases b5 with
      | true =>
        replace hb5 := of_decide_eq_true hb5.symm
        refine r_cond_t rfl ?_
        refine r_exit rfl ?_
        refine r_seq ?_
        refine r_region ?_
        refine OL.q (Q1.move rfl) rfl rfl ?_
        refine OL.q (Q1.move rfl) rfl rfl ?_
        refine OL.q (Q1.move rfl) rfl rfl ?_
        obtain ⟨g2, f1, hl1, k1⟩ := hS5.accK (i := 0) rfl
        obtain ⟨hr2, x1, hx1⟩ := Acc.at (P := Tryd.prog) f1 Tryd.underlying27 ti9 (k := .i64) (n := ((i : Nat) : Int)) (i) (by omega) (by first | assumption | omega | (simp; done))
        refine OL.q (Q1.indexAddr rfl rfl hr2) rfl rfl ?_
        refine OL.act rfl rfl (AW.storeA f1 encS_len (i := i) (o := 0) hx1 t ti9 rfl (by first | omega | rfl) rfl rfl rfl rfl (by decide) (by first | rfl | simp [encS]) ?_)
        intro w5 hm4 hz2 ha2
        have hl2 : (a.set i t).length = a.length := List.length_set
        have hS6 : St (fun _ => False) (fun _ => False) w0 w5 [accR encS 9 1 v1 ((a.set i t))] := k1 _ _ _ _ hm4 ha2 (.inl rfl)
        refine OL.nil ?_
        refine r_seq ?_
        refine r_region ?_
        refine OL.q (Q1.move rfl) rfl rfl ?_
        refine OL.q (Q1.move rfl) rfl rfl ?_
        refine OL.q (Q1.addI (((i + 1 : Nat) : Int)) rfl rfl (by omega)) rfl rfl ?_
        have hS7 : St (fun _ => False) (fun _ => False) w0 w5 [slR encS [(v1, (a.set i t))]] := hS6.freeze (i := 0) rfl
        obtain ⟨Fp1, f2, k2⟩ := hS7.slK (i := 0) (k := 0) rfl rfl
        obtain ⟨v2, hr3, hl3⟩ := Sl.part (P := Tryd.prog) f2 Tryd.underlying27 ti9 encS_len (0) (i + 1) (.inl ⟨rfl, rfl⟩) (.inr ⟨.i64, ((i + 1 : Nat) : Int), rfl, by omega⟩) (by omega) (by first | assumption | omega)
        replace hl3 : Sl encS w5 Fp1 v2 (((a.set i t)).take (i + 1)) := by simpa using hl3
        refine OL.q (Q1.sliceV rfl rfl rfl rfl hr3) rfl rfl ?_
        have hS8 : St (fun _ => False) (fun _ => False) w0 w5 [slR encS [(v1, (a.set i t)), (v2, (((a.set i t)).take (i + 1)))]] := k2 _ _ hl3
        refine OL.q (Q1.assign rfl) rfl rfl ?_
        refine OL.nil ?_
        refine r_ret1 Tryd.func56 rfl rfl ?_
        have f3 := hS8.slOut (i := 0) (k := 1) rfl rfl
        exact Ret.mk ⟨(Sl.cast f3 (by first | exact hA.fin' (by omega) | (exfalso; omega))), hS8.mod⟩
      | false =>
        replace hb5 := of_decide_eq_false hb5.symm
        refine r_cond_f rfl ?_
        refine r_skip ?_
        refine r_seq ?_
        refine r_region ?_
        refine OL.q (Q1.move rfl) rfl rfl ?_
        refine OL.q (Q1.move rfl) rfl rfl ?_
        refine OL.q (Q1.move rfl) rfl rfl ?_
        refine OL.q (Q1.move rfl) rfl rfl ?_
        refine OL.q (Q1.move rfl) rfl rfl ?_
        refine OL.q (Q1.addI (((Lib.indexByte t ((c : UInt8))) + 0)) rfl rfl (by omega)) rfl rfl ?_
        refine OL.q (Q1.sliceS_hi ((((Lib.indexByte t ((c : UInt8))) + 0)).toNat) Tryd.underlying9 rfl rfl (by omega) (by first | assumption | omega)) rfl rfl ?_
        obtain ⟨g2, f1, hl1, k1⟩ := hS5.accK (i := 0) rfl
        obtain ⟨hr2, x1, hx1⟩ := Acc.at (P := Tryd.prog) f1 Tryd.underlying27 ti9 (k := .i64) (n := ((i : Nat) : Int)) (i) (by omega) (by first | assumption | omega | (simp; done))
        refine OL.q (Q1.indexAddr rfl rfl hr2) rfl rfl ?_
        refine OL.act rfl rfl (AW.storeA f1 encS_len (i := i) (o := 0) hx1 ((t.take ((((Lib.indexByte t ((c : UInt8))) + 0)).toNat))) ti9 rfl (by first | omega | rfl) rfl rfl rfl rfl (by decide) (by first | rfl | simp [encS]) ?_)
        intro w5 hm4 hz2 ha2
        have hl2 : (a.set i ((t.take ((((Lib.indexByte t ((c : UInt8))) + 0)).toNat)))).length = a.length := List.length_set
        have hS6 : St (fun _ => False) (fun _ => False) w0 w5 [accR encS 9 1 v1 ((a.set i ((t.take ((((Lib.indexByte t ((c : UInt8))) + 0)).toNat)))))] := k1 _ _ _ _ hm4 ha2 (.inl rfl)
        refine OL.nil ?_
        refine r_seq ?_
        refine r_region ?_
        refine OL.q (Q1.move rfl) rfl rfl ?_
        refine OL.q (Q1.move rfl) rfl rfl ?_
        refine OL.q (Q1.move rfl) rfl rfl ?_
        refine OL.q (Q1.lenS Tryd.underlying9 rfl) rfl rfl ?_
        refine OL.q (Q1.addI (((Lib.indexByte t ((c : UInt8))) + ((((([c] : Str)).length : Nat) : Int)))) rfl rfl (by omega)) rfl rfl ?_
        refine OL.q (Q1.sliceS_lo ((((Lib.indexByte t ((c : UInt8))) + ((((([c] : Str)).length : Nat) : Int)))).toNat) Tryd.underlying9 rfl rfl (by omega) (by first | assumption | omega)) rfl rfl ?_
        refine OL.q (Q1.assign rfl) rfl rfl ?_
        refine OL.nil ?_
        refine r_region ?_
        refine OL.q (Q1.move rfl) rfl rfl ?_
        refine OL.q (Q1.addI (((i + 1 : Nat) : Int)) rfl rfl (by omega)) rfl rfl ?_
        refine OL.q (Q1.assign rfl) rfl rfl ?_
        refine OL.nil ?_
        refine r_inBlock ?_
        exact (ih1 _ _ _ ⟨((t.drop ((((Lib.indexByte t ((c : UInt8))) + ((((([c] : Str)).length : Nat) : Int)))).toNat)) : Str), ((a.set i ((t.take ((((Lib.indexByte t ((c : UInt8))) + 0)).toNat)))) : List Str), (i + 1 : Nat), rfl, rfl, hS6, (by first | exact hA.step' (by assumption) (by omega) (by simp; omega) | (exfalso; omega))⟩ (by omega)).sub ⟨rfl, rfl, rfl, rfl, rfl, rfl, trivial⟩
    | false =>
      replace hb4 := of_decide_eq_false hb4.symm
      refine r_cond_f rfl ?_
      refine r_exit rfl ?_
      refine r_seq ?_
      refine r_region ?_
      refine OL.q (Q1.move rfl) rfl rfl ?_
      refine OL.q (Q1.move rfl) rfl rfl ?_
      refine OL.q (Q1.move rfl) rfl rfl ?_
      obtain ⟨g2, f1, hl1, k1⟩ := hS4.accK (i := 0) rfl
      obtain ⟨hr2, x1, hx1⟩ := Acc.at (P := Tryd.prog) f1 Tryd.underlying27 ti9 (k := .i64) (n := ((i : Nat) : Int)) (i) (by omega) (by first | assumption | omega | (simp; done))
      refine OL.q (Q1.indexAddr rfl rfl hr2) rfl rfl ?_
      refine OL.act rfl rfl (AW.storeA f1 encS_len (i := i) (o := 0) hx1 t ti9 rfl (by first | omega | rfl) rfl rfl rfl rfl (by decide) (by first | rfl | simp [encS]) ?_)
      intro w4 hm3 hz2 ha2
      have hl2 : (a.set i t).length = a.length := List.length_set
      have hS5 : St (fun _ => False) (fun _ => False) w0 w4 [accR encS 9 1 v1 ((a.set i t))] := k1 _ _ _ _ hm3 ha2 (.inl rfl)
      refine OL.nil ?_
      refine r_seq ?_
      refine r_region ?_
      refine OL.q (Q1.move rfl) rfl rfl ?_
      refine OL.q (Q1.move rfl) rfl rfl ?_
      refine OL.q (Q1.addI (((i + 1 : Nat) : Int)) rfl rfl (by omega)) rfl rfl ?_
      have hS6 : St (fun _ => False) (fun _ => False) w0 w4 [slR encS [(v1, (a.set i t))]] := hS5.freeze (i := 0) rfl
      obtain ⟨Fp1, f2, k2⟩ := hS6.slK (i := 0) (k := 0) rfl rfl
      obtain ⟨v2, hr3, hl3⟩ := Sl.part (P := Tryd.prog) f2 Tryd.underlying27 ti9 encS_len (0) (i + 1) (.inl ⟨rfl, rfl⟩) (.inr ⟨.i64, ((i + 1 : Nat) : Int), rfl, by omega⟩) (by omega) (by first | assumption | omega)
      replace hl3 : Sl encS w4 Fp1 v2 (((a.set i t)).take (i + 1)) := by simpa using hl3
      refine OL.q (Q1.sliceV rfl rfl rfl rfl hr3) rfl rfl ?_
      have hS7 : St (fun _ => False) (fun _ => False) w0 w4 [slR encS [(v1, (a.set i t)), (v2, (((a.set i t)).take (i + 1)))]] := k2 _ _ hl3
      refine OL.q (Q1.assign rfl) rfl rfl ?_
      refine OL.nil ?_
      refine r_ret1 Tryd.func56 rfl rfl ?_
      have f3 := hS7.slOut (i := 0) (k := 1) rfl rfl
      exact Ret.mk ⟨(Sl.cast f3 (by first | exact hA.fin' (by omega) | (exfalso; omega))), hS7.mod⟩
set_option maxRecDepth 20000 in
set_option maxHeartbeats 4000000 in
theorem spl_c {w0 : World}  (s : Str) (c : UInt8) (hsl : s.length ≤ 1000000) :
    Calls Tryd.prog 44 #[strV s, strV (([c] : Str))] w0 (Ret fun rv w1 => Sl encS w1 (Iv w0.heap.size w1.heap.size) rv (splitM c s) ∧ Ext w0 w1) := by
  have hS0 := St.start0 w0
  refine calls_enter Tryd.func44 rfl Tryd.ntmps44 rfl ?_
  refine r_seq ?_
  refine r_region ?_
  refine OL.q (Q1.assign rfl) rfl rfl ?_
  refine OL.nil ?_
  refine r_seq ?_
  refine r_region ?_
  refine OL.q (Q1.move rfl) rfl rfl ?_
  refine OL.q (Q1.move rfl) rfl rfl ?_
  refine OL.act rfl rfl (AW.callF cl56 rfl (gspl_c (w0 := w0)  s (c : UInt8) (by first | assumption | omega)) ?_)
  rintro v1 w1 ⟨h1, hm1⟩
  have hS1 := hS0.ext hm1
  have hS2 : St (fun _ => False) (fun _ => False) w0 w1 [slR encS [(v1, (splitM ((c : UInt8)) s))]] := hS0.newSl hm1 h1
  have hle_1 := h1.le
  refine OL.q (Q1.assign rfl) rfl rfl ?_
  refine OL.nil ?_
  refine r_ret1 Tryd.func44 rfl rfl ?_
  have f1 := hS2.slOut (i := 0) (k := 0) rfl rfl
  exact Ret.mk ⟨(Sl.cast f1 (by rfl)), hS2.mod⟩
set_option maxRecDepth 20000 in
set_option maxHeartbeats 4000000 in
theorem slcut_c {w0 : World}  (s : Str) (c : UInt8) (hsl : s.length ≤ 1000000) :
    Calls Tryd.prog 43 #[strV s, strV (([c] : Str))] w0 (Ret fun rv w1 => ∃ u0 u1 u2, rv = .tuple #[u0, u1, u2] ∧ u0 = strV ((cutM c s).1) ∧ u1 = strV ((cutM c s).2) ∧ (∃ rb : Bool, rb = (decide (Lib.indexByte s c ≥ 0)) ∧ u2 = .bool rb) ∧ Ext w0 w1) := by
  have hc1 : ([c] : Str).length = 1 := rfl
  have hS0 := St.start0 w0
  refine calls_enter Tryd.func43 rfl Tryd.ntmps43 rfl ?_
  refine r_seq ?_
  refine r_region ?_
  refine OL.q (Q1.assign rfl) rfl rfl ?_
  refine OL.q (Q1.assign rfl) rfl rfl ?_
  refine OL.q (Q1.assign rfl) rfl rfl ?_
  refine OL.nil ?_
  refine r_seq ?_
  refine r_seq ?_
  refine r_region ?_
  refine OL.q (Q1.move rfl) rfl rfl ?_
  refine OL.q (Q1.move rfl) rfl rfl ?_
  refine OL.act rfl rfl (AW.callF cl55 rfl (slix_c (w0 := w0)  s (c : UInt8) (by first | assumption | omega)) ?_)
  rintro _ w1 ⟨rfl, hm1⟩
  have hS1 := hS0.ext hm1
  have hir := ixb_rng s c
  refine OL.q (Q1.assign rfl) rfl rfl ?_
  refine OL.nil ?_
  refine r_seq ?_
  refine r_region ?_
  refine OL.q (Q1.move rfl) rfl rfl ?_
  refine OL.qb (Q1.ge rfl rfl) rfl rfl ?_
  intro b1 hb1
  refine OL.nil ?_
  cases b1 with
  | true =>
    replace hb1 := of_decide_eq_true hb1.symm
    refine r_cond_t rfl ?_
    refine r_seq ?_
    refine r_draw1 (fun i => false) 12 (fun w' => Mod (Mg 0) w1 w') mixed (by kernel_rfl) ?_
    intro w2 hm2
    have hS2 := hS1.ext hm2
    have hCw2 : Mod (Mg 0) w1 w2 := Mod.ofExt hm2
    refine ⟨hCw2, ?_⟩
    rw [show List.range' 0 (Array.size _) = [0, 1, 2, 3, 4, 5, 6, 7, 8, 9, 10, 11] from rfl]
    refine OD.q rfl rfl (Q1.move rfl) rfl rfl ?_
    refine OD.q rfl rfl (Q1.move rfl) rfl rfl ?_
    refine OD.q rfl rfl (Q1.sliceS_hi (((Lib.indexByte s ((c : UInt8)))).toNat) Tryd.underlying9 rfl rfl (by omega) (by first | assumption | omega)) rfl rfl ?_
    refine OD.q rfl rfl (Q1.move rfl) rfl rfl ?_
    refine OD.q rfl rfl (Q1.move rfl) rfl rfl ?_
    refine OD.q rfl rfl (Q1.move rfl) rfl rfl ?_
    refine OD.q rfl rfl (Q1.lenS Tryd.underlying9 rfl) rfl rfl ?_
    refine OD.q rfl rfl (Q1.addI (((Lib.indexByte s ((c : UInt8))) + ((((([c] : Str)).length : Nat) : Int)))) rfl rfl (by omega)) rfl rfl ?_
    refine OD.q rfl rfl (Q1.sliceS_lo ((((Lib.indexByte s ((c : UInt8))) + ((((([c] : Str)).length : Nat) : Int)))).toNat) Tryd.underlying9 rfl rfl (by omega) (by first | assumption | omega)) rfl rfl ?_
    refine OD.q rfl rfl (Q1.assign rfl) rfl rfl ?_
    refine OD.q rfl rfl (Q1.assign rfl) rfl rfl ?_
    refine OD.q rfl rfl (Q1.assign rfl) rfl rfl ?_
    refine OD.nil ?_
    refine r_ret3 Tryd.func43 rfl rfl rfl rfl ?_
    exact Ret.mk ⟨_, _, _, rfl, (congrArg strV (by first | exact cut_a (by assumption) (by omega) | exact cut_b (by assumption) (by simp; omega) | (rw [cut_no (by assumption)]; done) | exact (decide_eq_true (by assumption)).symm | exact (decide_eq_false (by assumption)).symm | (exfalso; omega))), (congrArg strV (by first | exact cut_a (by assumption) (by omega) | exact cut_b (by assumption) (by simp; omega) | (rw [cut_no (by assumption)]; done) | exact (decide_eq_true (by assumption)).symm | exact (decide_eq_false (by assumption)).symm | (exfalso; omega))), ⟨_, (by first | exact cut_a (by assumption) (by omega) | exact cut_b (by assumption) (by simp; omega) | (rw [cut_no (by assumption)]; done) | exact (decide_eq_true (by assumption)).symm | exact (decide_eq_false (by assumption)).symm | (exfalso; omega)), rfl⟩, hS2.mod⟩
  | false =>
    replace hb1 := of_decide_eq_false hb1.symm
    refine r_cond_f rfl ?_
    refine r_skip ?_
    refine r_seq ?_
    refine r_region ?_
    refine OL.q (Q1.move rfl) rfl rfl ?_
    refine OL.q (Q1.assign rfl) rfl rfl ?_
    refine OL.q (Q1.assign rfl) rfl rfl ?_
    refine OL.q (Q1.assign rfl) rfl rfl ?_
    refine OL.nil ?_
    refine r_ret3 Tryd.func43 rfl rfl rfl rfl ?_
    exact Ret.mk ⟨_, _, _, rfl, (congrArg strV (by first | exact cut_a (by assumption) (by omega) | exact cut_b (by assumption) (by simp; omega) | (rw [cut_no (by assumption)]; done) | exact (decide_eq_true (by assumption)).symm | exact (decide_eq_false (by assumption)).symm | (exfalso; omega))), (congrArg strV (by first | exact cut_a (by assumption) (by omega) | exact cut_b (by assumption) (by simp; omega) | (rw [cut_no (by assumption)]; done) | exact (decide_eq_true (by assumption)).symm | exact (decide_eq_false (by assumption)).symm | (exfalso; omega))), ⟨_, (by first | exact cut_a (by assumption) (by omega) | exact cut_b (by assumption) (by simp; omega) | (rw [cut_no (by assumption)]; done) | exact (decide_eq_true (by assumption)).symm | exact (decide_eq_false (by assumption)).symm | (exfalso; omega)), rfl⟩, hS1.mod⟩
set_option maxRecDepth 20000 in
set_option maxHeartbeats 4000000 in
theorem stcut_c {w0 : World}  (s : Str) (c : UInt8) (hsl : s.length ≤ 1000000) :
    Calls Tryd.prog 28 #[strV s, strV (([c] : Str))] w0 (Ret fun rv w1 => ∃ u0 u1 u2, rv = .tuple #[u0, u1, u2] ∧ u0 = strV ((cutM c s).1) ∧ u1 = strV ((cutM c s).2) ∧ (∃ rb : Bool, rb = (decide (Lib.indexByte s c ≥ 0)) ∧ u2 = .bool rb) ∧ Ext w0 w1) := by
  have hS0 := St.start0 w0
  refine calls_enter Tryd.func28 rfl Tryd.ntmps28 rfl ?_
  refine r_seq ?_
  refine r_region ?_
  refine OL.q (Q1.assign rfl) rfl rfl ?_
  refine OL.q (Q1.assign rfl) rfl rfl ?_
  refine OL.q (Q1.assign rfl) rfl rfl ?_
  refine OL.nil ?_
  refine r_seq ?_
  refine r_region ?_
  refine OL.q (Q1.move rfl) rfl rfl ?_
  refine OL.q (Q1.move rfl) rfl rfl ?_
  refine OL.act rfl rfl (AW.callF cl43 rfl (slcut_c (w0 := w0)  s (c : UInt8) (by first | assumption | omega)) ?_)
  rintro _ w1 ⟨_, _, _, rfl, rfl, rfl, ⟨b1, hb1, rfl⟩, hm1⟩
  have hS1 := hS0.ext hm1
  refine OL.q (Q1.extract rfl rfl) rfl rfl ?_
  refine OL.q (Q1.extract rfl rfl) rfl rfl ?_
  refine OL.q (Q1.extract rfl rfl) rfl rfl ?_
  refine OL.q (Q1.assign rfl) rfl rfl ?_
  refine OL.q (Q1.assign rfl) rfl rfl ?_
  refine OL.q (Q1.assign rfl) rfl rfl ?_
  refine OL.nil ?_
  refine r_ret3 Tryd.func28 rfl rfl rfl rfl ?_
  exact Ret.mk ⟨_, _, _, rfl, (congrArg strV (by first | rfl | assumption | (exfalso; omega))), (congrArg strV (by first | rfl | assumption | (exfalso; omega))), ⟨_, (by first | rfl | assumption | (exfalso; omega)), rfl⟩, hS1.mod⟩
set_option maxRecDepth 20000 in
set_option maxHeartbeats 4000000 in
theorem numbers_c {w0 : World}  {v_l : Value} {l : List Str} (h_l : Sl encS w0 (Iv 0 w0.heap.size) v_l l) (hG : GS w0) (hll : ∀ x ∈ l, x.length ≤ 100000) (hln : l.length ≤ 100000) :
    Calls Tryd.prog 57 #[v_l] w0 (Ret fun rv w1 => ∃ u0 u1, rv = .tuple #[u0, u1] ∧ (∃ gr, Acc Ik.encI 3 1 w1 gr u0 ((numsM l).getD []) ∧ (gr = 0 ∨ w0.heap.size < gr)) ∧ (∃ rb : Bool, rb = ((numsM l).isSome) ∧ u1 = .bool rb) ∧ Ext w0 w1) := by
  have hle_l := h_l.le
  have hFg : ∀ b, b = gB ∨ b = gS ∨ b = gR → ¬ (fun _ : Nat => False) b := fun _ _ h => h
  have hS0 := St.start0 w0
  refine calls_enter Tryd.func57 rfl Tryd.ntmps57 rfl ?_
  refine r_seq ?_
  refine r_region ?_
  refine OL.q (Q1.assign rfl) rfl rfl ?_
  refine OL.q (Q1.assign rfl) rfl rfl ?_
  refine OL.nil ?_
  refine r_seq ?_
  refine r_region ?_
  refine OL.q (Q1.assign rfl) rfl rfl ?_
  refine OL.nil ?_
  refine r_seq ?_
  refine r_seq ?_
  refine r_region ?_
  refine OL.q (Q1.move rfl) rfl rfl ?_
  refine OL.q (Q1.lenSl Tryd.underlying27 (h_l) rfl) rfl rfl ?_
  refine OL.q (Q1.move rfl) rfl rfl ?_
  refine OL.nil ?_
  refine r_block ?_
  have hS2 : St (fun _ => False) (fun _ => False) w0 w0 [accR Ik.encI 3 1 (.slice none 0 0) []] := hS0.newAcc (Mod.refl _ _) Acc.nil (.inl rfl)
  refine r_loop (I := fun m E W => ∃ (v_out : Value) (out : List Int) (i : Nat), E = [(4, v_out), (9, v_l), (10, .int .i64 (((l.length : Nat) : Int))), (11, .int .i64 (((i : Nat) : Int)))] ∧ m = l.length - i ∧ St (fun _ => False) (fun _ => False) w0 W [accR Ik.encI 3 1 v_out out] ∧ (numsM (l.take i) = some out) ∧ (out.length ≤ i)) ?_ ?_
  · refine ⟨_, _, ⟨(.slice none 0 0 : Value), ([] : List Int), (0 : Nat), rfl, rfl, hS2, (by rfl), (by exact Nat.le_refl _)⟩, ⟨rfl, rfl, rfl, rfl, trivial⟩⟩
  · rintro _ _ w1 ⟨v_out, out, i, rfl, rfl, hS1, hN, hol⟩ ih1
    refine r_seq ?_
    refine r_region ?_
    refine OL.qb (Q1.lt rfl rfl) rfl rfl ?_
    intro b1 hb1
    refine OL.nil ?_
    refine r_seq ?_
    cases b1 with
    | true =>
      replace hb1 := of_decide_eq_true hb1.symm
      refine r_cond_t rfl ?_
      refine r_skip ?_
      refine r_seq ?_
      refine r_block ?_
      refine r_seq ?_
      refine r_region ?_
      have f1 := hS1.out h_l (fun _ _ h => h)
      obtain ⟨x1, b2, o1, hx1, hr1, hl1, hw1⟩ := Sl.atF (P := Tryd.prog) f1 Tryd.underlying27 ti9 encS_len (k := .i64) (n := ((i : Nat) : Int)) (i) (by omega) (by first | assumption | omega)
      refine OL.q (Q1.indexAddr rfl rfl hr1) rfl rfl ?_
      refine OL.q (Q1.load1 ti9 rfl (fun _ e => e ▸ hw1)) rfl rfl ?_
      refine OL.q (Q1.assign rfl) rfl rfl ?_
      refine OL.nil ?_
      refine r_seq ?_
      refine r_region ?_
      refine OL.q (Q1.move rfl) rfl rfl ?_
      refine OL.act rfl rfl (AW.callF cl66 rfl (atoi_c (w0 := w1) x1 (Nat.le_trans (hll _ (List.mem_of_getElem? (by assumption))) (by decide)) (hG.keep hgp hS1.mod hFg)) ?_)
      rintro _ w2 ⟨na1, ea1, rfl, hat1, hm1⟩
      have hS3 := hS1.ext hm1
      rcases hat1 with ⟨hat1, hai1, rfl⟩ | ⟨hat1, hai1, te1, pe1, rfl⟩
      · skip
        refine OL.q (Q1.move rfl) rfl rfl ?_
        refine OL.q (Q1.extract rfl rfl) rfl rfl ?_
        refine OL.q (Q1.extract rfl rfl) rfl rfl ?_
        refine OL.q (Q1.assign rfl) rfl rfl ?_
        refine OL.q (Q1.assign rfl) rfl rfl ?_
        refine OL.nil ?_
        refine r_seq ?_
        refine r_seq ?_
        refine r_region ?_
        refine OL.q (Q1.move rfl) rfl rfl ?_
        refine OL.q (Q1.neNilI Tryd.underlying56 rfl) rfl rfl ?_
        refine OL.q (Q1.move rfl) rfl rfl ?_
        refine OL.q (Q1.move rfl) rfl rfl ?_
        refine OL.qb (Q1.lt rfl rfl) rfl rfl ?_
        intro b3 hb2
        refine OL.q (Q1.pick_f rfl rfl) rfl rfl ?_
        refine OL.q (Q1.move rfl) rfl rfl ?_
        cases b3 with
        | true =>
          replace hb2 := of_decide_eq_true hb2.symm
          refine OL.sk rfl rfl ?_
          refine OL.sk rfl rfl ?_
          refine OL.q (Q1.pick_t rfl rfl) rfl rfl ?_
          refine OL.q (Q1.move rfl) rfl rfl ?_
          refine OL.sk rfl rfl ?_
          refine OL.sk rfl rfl ?_
          refine OL.sk rfl rfl ?_
          refine OL.sk rfl rfl ?_
          refine OL.q (Q1.pick_t rfl rfl) rfl rfl ?_
          refine OL.nil ?_
          refine r_cond_t rfl ?_
          refine r_seq ?_
          refine r_region ?_
          refine OL.q (Q1.assign rfl) rfl rfl ?_
          refine OL.q (Q1.assign rfl) rfl rfl ?_
          refine OL.nil ?_
          refine r_ret2 Tryd.func57 rfl rfl rfl ?_
          exact Ret.mk ⟨_, _, rfl, ⟨0, Acc.cast Acc.nil (by first | (rw [nums_all hN (by omega)]; rfl) | (rw [nums_none hx1 (.inr hat1)]; rfl) | (rw [nums_none hx1 (.inl ⟨_, hat1, by first | (left; assumption) | (right; left; assumption) | (right; right; assumption)⟩)]; rfl) | (exfalso; omega)), .inl rfl⟩, ⟨_, (by first | (rw [nums_all hN (by omega)]; rfl) | (rw [nums_none hx1 (.inr hat1)]; rfl) | (rw [nums_none hx1 (.inl ⟨_, hat1, by first | (left; assumption) | (right; left; assumption) | (right; right; assumption)⟩)]; rfl) | (exfalso; omega)), rfl⟩, hS3.mod⟩
        | false =>
          replace hb2 := of_decide_eq_false hb2.symm
          refine OL.q (Q1.move rfl) rfl rfl ?_
          refine OL.qb (Q1.gt rfl rfl) rfl rfl ?_
          intro b4 hb3
          refine OL.q (Q1.pick_f rfl rfl) rfl rfl ?_
          refine OL.q (Q1.move rfl) rfl rfl ?_
          cases b4 with
          | true =>
            replace hb3 := of_decide_eq_true hb3.symm
            refine OL.sk rfl rfl ?_
            refine OL.sk rfl rfl ?_
            refine OL.sk rfl rfl ?_
            refine OL.sk rfl rfl ?_
            refine OL.q (Q1.pick_t rfl rfl) rfl rfl ?_
            refine OL.nil ?_
            refine r_cond_t rfl ?_
            refine r_seq ?_
            refine r_region ?_
            refine OL.q (Q1.assign rfl) rfl rfl ?_
            refine OL.q (Q1.assign rfl) rfl rfl ?_
            refine OL.nil ?_
            refine r_ret2 Tryd.func57 rfl rfl rfl ?_
            exact Ret.mk ⟨_, _, rfl, ⟨0, Acc.cast Acc.nil (by first | (rw [nums_all hN (by omega)]; rfl) | (rw [nums_none hx1 (.inr hat1)]; rfl) | (rw [nums_none hx1 (.inl ⟨_, hat1, by first | (left; assumption) | (right; left; assumption) | (right; right; assumption)⟩)]; rfl) | (exfalso; omega)), .inl rfl⟩, ⟨_, (by first | (rw [nums_all hN (by omega)]; rfl) | (rw [nums_none hx1 (.inr hat1)]; rfl) | (rw [nums_none hx1 (.inl ⟨_, hat1, by first | (left; assumption) | (right; left; assumption) | (right; right; assumption)⟩)]; rfl) | (exfalso; omega)), rfl⟩, hS3.mod⟩
          | false =>
            replace hb3 := of_decide_eq_false hb3.symm
            refine OL.q (Q1.move rfl) rfl rfl ?_
            refine OL.act rfl rfl (AW.callF cl51 rfl (itoa_c (w0 := w2)  (na1) (by first | omega | assumption) (by exact hG.keep hgp (hS3.mod) hFg)) ?_)
            rintro _ w3 ⟨rfl, hm2⟩
            have hS4 := hS3.ext hm2
            refine OL.q (Q1.move rfl) rfl rfl ?_
            refine OL.qb (Q1.neS rfl rfl) rfl rfl ?_
            intro b5 hb4
            refine OL.q (Q1.pick_f rfl rfl) rfl rfl ?_
            refine OL.nil ?_
            cases b5 with
            | true =>
              replace hb4 := nbeq_t hb4
              refine r_cond_t rfl ?_
              refine r_seq ?_
              refine r_region ?_
              refine OL.q (Q1.assign rfl) rfl rfl ?_
              refine OL.q (Q1.assign rfl) rfl rfl ?_
              refine OL.nil ?_
              refine r_ret2 Tryd.func57 rfl rfl rfl ?_
              exact Ret.mk ⟨_, _, rfl, ⟨0, Acc.cast Acc.nil (by first | (rw [nums_all hN (by omega)]; rfl) | (rw [nums_none hx1 (.inr hat1)]; rfl) | (rw [nums_none hx1 (.inl ⟨_, hat1, by first | (left; assumption) | (right; left; assumption) | (right; right; assumption)⟩)]; rfl) | (exfalso; omega)), .inl rfl⟩, ⟨_, (by first | (rw [nums_all hN (by omega)]; rfl) | (rw [nums_none hx1 (.inr hat1)]; rfl) | (rw [nums_none hx1 (.inl ⟨_, hat1, by first | (left; assumption) | (right; left; assumption) | (right; right; assumption)⟩)]; rfl) | (exfalso; omega)), rfl⟩, hS4.mod⟩
            | false =>
              replace hb4 := nbeq_f hb4
              refine r_cond_f rfl ?_
              refine r_skip ?_
              refine r_region ?_
              refine OL.q (Q1.move rfl) rfl rfl ?_
              refine OL.q (Q1.move rfl) rfl rfl ?_
              refine OL.act rfl rfl (AW.buildSlice [(.int .i64 na1 : Value)] Tryd.underlying82 ti3 rfl rfl rfl (by decide) ?_)
              intro w4 b6 hm3 hb5 hz1 hk1
              have hS5 := hS4.ext hm3
              have hl2 := Sl.of_blk (enc := Ik.encI) hk1 ([na1] : List Int) 1 rfl rfl (by unfold maxLen; omega)
              have hS6 : St (fun _ => False) (fun _ => False) w0 w4 [accR Ik.encI 3 1 v_out out, slR Ik.encI [((.slice (some ⟨b6, 0, none⟩) 1 1), [na1])]] := hS4.newSlB hm3 hb5 hz1 hl2
              obtain ⟨g2, f2, hl3, k1⟩ := hS6.accK (i := 0) rfl
              have f3 := hS6.sl (i := 1) (k := 0) rfl rfl
              refine OL.act rfl rfl (AW.append f2 Tryd.underlying82 ti3 rfl Ik.encI_len Ik.encI_one rfl rfl (f3) (by first | omega | (simp only [List.length_append, List.length_cons, List.length_nil]; omega) | (simp; omega)) (by unfold maxLen; first | omega | (simp only [List.length_append, List.length_cons, List.length_nil]; omega) | (simp; omega)) ?_)
              intro v1 g1 w5 ha1 hm4 hg1 hz2
              have hS7 : St (fun _ => False) (fun _ => False) w0 w5 [accR Ik.encI 3 1 v1 ((out ++ [na1])), slR Ik.encI [((.slice (some ⟨b6, 0, none⟩) 1 1), [na1])]] := k1 _ _ _ _ hm4 ha1 hg1
              clear hg1
              refine OL.q (Q1.assign rfl) rfl rfl ?_
              refine OL.nil ?_
              refine r_inBlock ?_
              refine r_region ?_
              refine OL.q (Q1.addI (((i + 1 : Nat) : Int)) rfl rfl (by omega)) rfl rfl ?_
              refine OL.q (Q1.move rfl) rfl rfl ?_
              refine OL.nil ?_
              have hS8 : St (fun _ => False) (fun _ => False) w0 w5 [accR Ik.encI 3 1 v1 ((out ++ [na1]))] := hS7.sel [0] (by rfl) (by decide)
              exact (ih1 _ _ _ ⟨(v1 : Value), ((out ++ [na1]) : List Int), (i + 1 : Nat), rfl, rfl, hS8, (by first | exact nums_more hN hx1 (by assumption) (by assumption) (by assumption) (by assumption) | (exfalso; omega)), (by first | (simp only [List.length_append, List.length_cons, List.length_nil]; omega) | (exfalso; omega))⟩ (by omega)).sub ⟨rfl, rfl, rfl, rfl, trivial⟩
      · skip
        refine OL.q (Q1.move rfl) rfl rfl ?_
        refine OL.q (Q1.extract rfl rfl) rfl rfl ?_
        refine OL.q (Q1.extract rfl rfl) rfl rfl ?_
        refine OL.q (Q1.assign rfl) rfl rfl ?_
        refine OL.q (Q1.assign rfl) rfl rfl ?_
        refine OL.nil ?_
        refine r_seq ?_
        refine r_seq ?_
        refine r_region ?_
        refine OL.q (Q1.move rfl) rfl rfl ?_
        refine OL.q (Q1.neIfaceNil Tryd.underlying56 rfl) rfl rfl ?_
        refine OL.q (Q1.move rfl) rfl rfl ?_
        refine OL.sk rfl rfl ?_
        refine OL.sk rfl rfl ?_
        refine OL.q (Q1.pick_t rfl rfl) rfl rfl ?_
        refine OL.q (Q1.move rfl) rfl rfl ?_
        refine OL.sk rfl rfl ?_
        refine OL.sk rfl rfl ?_
        refine OL.q (Q1.pick_t rfl rfl) rfl rfl ?_
        refine OL.q (Q1.move rfl) rfl rfl ?_
        refine OL.sk rfl rfl ?_
        refine OL.sk rfl rfl ?_
        refine OL.sk rfl rfl ?_
        refine OL.sk rfl rfl ?_
        refine OL.q (Q1.pick_t rfl rfl) rfl rfl ?_
        refine OL.nil ?_
        refine r_cond_t rfl ?_
        refine r_seq ?_
        refine r_region ?_
        refine OL.q (Q1.assign rfl) rfl rfl ?_
        refine OL.q (Q1.assign rfl) rfl rfl ?_
        refine OL.nil ?_
        refine r_ret2 Tryd.func57 rfl rfl rfl ?_
        exact Ret.mk ⟨_, _, rfl, ⟨0, Acc.cast Acc.nil (by first | (rw [nums_all hN (by omega)]; rfl) | (rw [nums_none hx1 (.inr hat1)]; rfl) | (rw [nums_none hx1 (.inl ⟨_, hat1, by first | (left; assumption) | (right; left; assumption) | (right; right; assumption)⟩)]; rfl) | (exfalso; omega)), .inl rfl⟩, ⟨_, (by first | (rw [nums_all hN (by omega)]; rfl) | (rw [nums_none hx1 (.inr hat1)]; rfl) | (rw [nums_none hx1 (.inl ⟨_, hat1, by first | (left; assumption) | (right; left; assumption) | (right; right; assumption)⟩)]; rfl) | (exfalso; omega)), rfl⟩, hS3.mod⟩
    | false =>
      replace hb1 := of_decide_eq_false hb1.symm
      refine r_cond_f rfl ?_
      refine r_exit rfl ?_
      refine r_seq ?_
      refine r_region ?_
      refine OL.q (Q1.move rfl) rfl rfl ?_
      refine OL.q (Q1.assign rfl) rfl rfl ?_
      refine OL.q (Q1.assign rfl) rfl rfl ?_
      refine OL.nil ?_
      refine r_ret2 Tryd.func57 rfl rfl rfl ?_
      obtain ⟨g1, ha1, hg1⟩ := hS1.accOut (i := 0) rfl
      exact Ret.mk ⟨_, _, rfl, ⟨_, Acc.cast ha1 (by first | (rw [nums_all hN (by omega)]; rfl) | (rw [nums_none hx1 (.inr hat1)]; rfl) | (rw [nums_none hx1 (.inl ⟨_, hat1, by first | (left; assumption) | (right; left; assumption) | (right; right; assumption)⟩)]; rfl) | (exfalso; omega)), hg1⟩, ⟨_, (by first | (rw [nums_all hN (by omega)]; rfl) | (rw [nums_none hx1 (.inr hat1)]; rfl) | (rw [nums_none hx1 (.inl ⟨_, hat1, by first | (left; assumption) | (right; left; assumption) | (right; right; assumption)⟩)]; rfl) | (exfalso; omega)), rfl⟩, hS1.mod⟩
set_option maxRecDepth 20000 in
set_option maxHeartbeats 4000000 in
theorem asked_c {w0 : World}  {v_l : Value} {l : List Str} (h_l : Sl encS w0 (Iv 0 w0.heap.size) v_l l) (hG : GS w0) (hll : ∀ x ∈ l, x.length ≤ 100000) :
    Calls Tryd.prog 58 #[v_l] w0 (Ret fun rv w1 => ∃ u0 u1, rv = .tuple #[u0, u1] ∧ u0 = .agg #[strV (((askM l).getD zeroQ).text), .int .i64 (((askM l).getD zeroQ).k), .int .i64 (((askM l).getD zeroQ).n)] ∧ (∃ rb : Bool, rb = ((askM l).isSome) ∧ u1 = .bool rb) ∧ Ext w0 w1) := by
  have hle_l := h_l.le
  have hFg : ∀ b, b = gB ∨ b = gS ∨ b = gR → ¬ (fun _ : Nat => False) b := fun _ _ h => h
  have hS0 := St.start0 w0
  refine calls_enter Tryd.func58 rfl Tryd.ntmps58 rfl ?_
  refine r_seq ?_
  refine r_region ?_
  refine OL.act rfl rfl (AW.alloc ti48 ?_)
  intro w1 b1 hm1 hb1 hz1 hk1
  have hS1 := hS0.ext hm1
  have hS2 : St (fun _ => False) (fun _ => False) w0 w1 [bkR b1 [strV [], .int .i64 0, .int .i64 0] 48] := hS0.newBk hm1 hb1 hk1
  refine OL.q (Q1.assign rfl) rfl rfl ?_
  refine OL.nil ?_
  refine r_seq ?_
  refine r_seq ?_
  refine r_region ?_
  refine OL.q (Q1.move rfl) rfl rfl ?_
  have f1 := hS2.out h_l (fun _ _ h => h)
  refine OL.q (Q1.lenSl Tryd.underlying27 (f1) rfl) rfl rfl ?_
  refine OL.qb (Q1.ne rfl rfl) rfl rfl ?_
  intro b2 hb2
  refine OL.nil ?_
  cases b2 with
  | true =>
    replace hb2 := bne_iff_ne.1 hb2.symm
    refine r_cond_t rfl ?_
    refine r_seq ?_
    refine r_region ?_
    refine OL.q (Q1.build (vs := #[]) (v := .agg #[strV [], .int .i64 0, .int .i64 0]) rfl (fun _ => by kernel_rfl)) rfl rfl ?_
    have f2 := hS2.bk (i := 0) rfl
    refine OL.act rfl rfl (AW.store ti48 rfl rfl rfl rfl rfl f2 (Nat.le_of_ble_eq_true rfl) ?_)
    intro w2 hm2 hz2 hk2
    have hS3 : St (fun _ => False) (fun _ => False) w0 w2 [bkR b1 [strV [], .int .i64 0, .int .i64 0] 48] := hS2.bkK (i := 0) rfl hm2 hk2
    refine OL.q (Q1.assign rfl) rfl rfl ?_
    refine OL.nil ?_
    have f3 := hS3.bk (i := 0) rfl
    refine r_retC2 Tryd.func58 rfl rfl ti48 f3.row rfl rfl ?_
    exact Ret.mk ⟨_, _, rfl, (congrArg (fun z_ : Qry => Value.agg #[strV z_.text, .int .i64 z_.k, .int .i64 z_.n]) (a₁ := (Qry.mk [] 0 0)) (by first | (rw [ask_len (by omega)]; rfl) | (rw [ask_no (by omega) hx1 (by first | (left; first | assumption | (symm; assumption)) | (right; first | assumption | (symm; assumption)))]; rfl) | (rw [ask_yes (by omega) hx1 (by first | assumption | (symm; assumption)) (by first | assumption | (symm; assumption)) hx2 hx3]; rfl) | (exfalso; omega))), ⟨_, (by first | (rw [ask_len (by omega)]; rfl) | (rw [ask_no (by omega) hx1 (by first | (left; first | assumption | (symm; assumption)) | (right; first | assumption | (symm; assumption)))]; rfl) | (rw [ask_yes (by omega) hx1 (by first | assumption | (symm; assumption)) (by first | assumption | (symm; assumption)) hx2 hx3]; rfl) | (exfalso; omega)), rfl⟩, hS3.mod⟩
  | false =>
    replace hb2 := bne_eq_false_iff_eq.1 hb2.symm
    refine r_cond_f rfl ?_
    refine r_skip ?_
    refine r_seq ?_
    refine r_region ?_
    refine OL.q (Q1.move rfl) rfl rfl ?_
    obtain ⟨x1, b3, o1, hx1, hr1, hl1, hw1⟩ := Sl.atF (P := Tryd.prog) f1 Tryd.underlying27 ti9 encS_len (k := .i64) (n := 0) (0) (by omega) (by first | assumption | omega)
    refine OL.q (Q1.indexAddr rfl rfl hr1) rfl rfl ?_
    refine OL.q (Q1.load1 ti9 rfl (fun _ e => e ▸ hw1)) rfl rfl ?_
    refine OL.act rfl rfl (AW.callF cl10 rfl (unquote_c (w0 := w1)  x1 (by exact Nat.le_trans (hll _ (List.mem_of_getElem? (by assumption))) (by decide))) ?_)
    rintro _ w2 ⟨_, _, rfl, rfl, ⟨b4, hb3, rfl⟩, hm2⟩
    have hS3 := hS2.ext hm2
    have := unqM_len x1
    refine OL.q (Q1.move rfl) rfl rfl ?_
    refine OL.q (Q1.extract rfl rfl) rfl rfl ?_
    refine OL.q (Q1.extract rfl rfl) rfl rfl ?_
    refine OL.q (Q1.assign rfl) rfl rfl ?_
    refine OL.q (Q1.assign rfl) rfl rfl ?_
    refine OL.nil ?_
    refine r_seq ?_
    refine r_region ?_
    refine OL.q (Q1.move rfl) rfl rfl ?_
    obtain ⟨v1, hr2, hl2⟩ := Sl.part (P := Tryd.prog) h_l Tryd.underlying27 ti9 encS_len (1) (l.length) (.inr ⟨.i64, 1, rfl, by omega⟩) (.inl ⟨rfl, rfl⟩) (by omega) (by first | assumption | omega)
    replace hl2 : Sl encS w0 (Iv 0 w0.heap.size) v1 (l.drop 1) := by simpa using hl2
    refine OL.q (Q1.sliceV rfl rfl rfl rfl hr2) rfl rfl ?_
    have f2 := hS3.out hl2 (fun _ _ h => h)
    refine OL.act rfl rfl (AW.callF cl57 rfl (numbers_c (w0 := w2) (l := (l.drop 1))  (f2.iv (Nat.zero_le _) hS3.mod.size) (by exact hG.keep hgp (hS3.mod) hFg) (by first | assumption | exact fun x hx => hll x (List.mem_of_mem_drop hx) | exact fun x hx => hll x (List.mem_of_mem_take hx)) (by first | assumption | omega | (simp; omega))) ?_)
    rintro _ w3 ⟨v2, _, rfl, ⟨gr1, h1, hg1⟩, ⟨b5, hb4, rfl⟩, hm3⟩
    have hS4 := hS3.ext hm3
    have hS5 : St (fun _ => False) (fun _ => False) w0 w3 [bkR b1 [strV [], .int .i64 0, .int .i64 0] 48, accR Ik.encI 3 1 v2 (((numsM ((l.drop 1))).getD []))] := hS3.newAcc hm3 h1 hg1
    clear hg1
    have hle_1 := h1.le
    refine OL.q (Q1.move rfl) rfl rfl ?_
    refine OL.q (Q1.extract rfl rfl) rfl rfl ?_
    refine OL.q (Q1.extract rfl rfl) rfl rfl ?_
    refine OL.q (Q1.assign rfl) rfl rfl ?_
    refine OL.q (Q1.assign rfl) rfl rfl ?_
    refine OL.nil ?_
    refine r_seq ?_
    refine r_seq ?_
    refine r_region ?_
    refine OL.q (Q1.move rfl) rfl rfl ?_
    cases b4 with
    | true =>
      replace hb3 := hb3.symm
      refine OL.q (Q1.not rfl) rfl rfl ?_
      refine OL.q (Q1.move rfl) rfl rfl ?_
      refine OL.q (Q1.move rfl) rfl rfl ?_
      cases b5 with
      | true =>
        replace hb4 := hb4.symm
        refine OL.q (Q1.not rfl) rfl rfl ?_
        refine OL.q (Q1.pick_f rfl rfl) rfl rfl ?_
        refine OL.nil ?_
        refine r_cond_f rfl ?_
        refine r_skip ?_
        refine r_seq ?_
        obtain ⟨hnq, hnl, hnr⟩ := nums_getD (by first | assumption | (symm; assumption))
        rw [List.length_drop] at hnl
        obtain ⟨g1, f3, hl3, k1⟩ := hS5.accK (i := 1) rfl
        obtain ⟨x2, b6, o2, hx2, hr3, hl4, hw2⟩ := Sl.atF (P := Tryd.prog) f3.sl Tryd.underlying82 ti3 Ik.encI_len (k := .i64) (n := 0) (0) (by omega) (by first | assumption | omega)
        obtain ⟨x3, b7, o3, hx3, hr4, hl5, hw3⟩ := Sl.atF (P := Tryd.prog) f3.sl Tryd.underlying82 ti3 Ik.encI_len (k := .i64) (n := 1) (1) (by omega) (by first | assumption | omega)
        refine r_draw1 (fun i => Nat.beq i 8) 10 (fun w' => Row w' b6 o2 (Ik.encI x2) ∧ Row w' b7 o3 (Ik.encI x3)) mixed (by kernel_rfl) ?_
        intro w4 hm4
        have hS6 := hS5.ext hm4
        obtain ⟨g2, f4, hl6, k2⟩ := hS6.accK (i := 1) rfl
        refine ⟨⟨(Sl.rowAt f4.sl Tryd.underlying82 ti3 Ik.encI_len 0 (by omega) hx2 hr3), (Sl.rowAt f4.sl Tryd.underlying82 ti3 Ik.encI_len 1 (by omega) hx3 hr4)⟩, ?_⟩
        rw [show List.range' 0 (Array.size _) = [0, 1, 2, 3, 4, 5, 6, 7, 8, 9] from rfl]
        refine OD.q rfl rfl (Q1.move rfl) rfl rfl ?_
        refine OD.q rfl rfl (Q1.move rfl) rfl rfl ?_
        refine OD.q rfl rfl (Q1.indexAddr rfl rfl hr3) rfl rfl ?_
        refine OD.q rfl rfl (Q1.load1 ti3 rfl (fun _ hc => hc.1)) rfl rfl ?_
        refine OD.q rfl rfl (Q1.move rfl) rfl rfl ?_
        refine OD.q rfl rfl (Q1.indexAddr rfl rfl hr4) rfl rfl ?_
        refine OD.q rfl rfl (Q1.load1 ti3 rfl (fun _ hc => hc.2)) rfl rfl ?_
        refine OD.q rfl rfl (Q1.build (vs := #[(0, strV (((unqM x1).getD []))), (1, (.int .i64 x2 : Value)), (2, (.int .i64 x3 : Value))]) (v := .agg #[strV (((unqM x1).getD [])), .int .i64 x2, .int .i64 x3]) rfl (fun _ => by kernel_rfl)) rfl rfl ?_
        have f5 := hS6.bk (i := 0) rfl
        refine OD.act rfl rfl rfl rfl (AW.store ti48 rfl rfl rfl rfl rfl f5 (Nat.le_of_ble_eq_true rfl) ?_)
        intro w5 hm5 hz2 hk2
        have hS7 : St (fun _ => False) (fun _ => False) w0 w5 [bkR b1 [strV (((unqM x1).getD [])), .int .i64 x2, .int .i64 x3] 48, accR Ik.encI 3 1 v2 (((numsM ((l.drop 1))).getD []))] := hS6.bkK (i := 0) rfl hm5 hk2
        obtain ⟨g3, f6, hl7, k3⟩ := hS7.accK (i := 1) rfl
        refine ⟨.inr ⟨(Sl.rowAt f6.sl Tryd.underlying82 ti3 Ik.encI_len 0 (by omega) hx2 hr3), (Sl.rowAt f6.sl Tryd.underlying82 ti3 Ik.encI_len 1 (by omega) hx3 hr4)⟩, ?_⟩
        refine OD.q rfl rfl (Q1.assign rfl) rfl rfl ?_
        refine OD.nil ?_
        have f7 := hS7.bk (i := 0) rfl
        refine r_retC2 Tryd.func58 rfl rfl ti48 f7.row rfl rfl ?_
        exact Ret.mk ⟨_, _, rfl, (congrArg (fun z_ : Qry => Value.agg #[strV z_.text, .int .i64 z_.k, .int .i64 z_.n]) (a₁ := (Qry.mk (((unqM x1).getD [])) x2 x3)) (by first | (rw [ask_len (by omega)]; rfl) | (rw [ask_no (by omega) hx1 (by first | (left; first | assumption | (symm; assumption)) | (right; first | assumption | (symm; assumption)))]; rfl) | (rw [ask_yes (by omega) hx1 (by first | assumption | (symm; assumption)) (by first | assumption | (symm; assumption)) hx2 hx3]; rfl) | (exfalso; omega))), ⟨_, (by first | (rw [ask_len (by omega)]; rfl) | (rw [ask_no (by omega) hx1 (by first | (left; first | assumption | (symm; assumption)) | (right; first | assumption | (symm; assumption)))]; rfl) | (rw [ask_yes (by omega) hx1 (by first | assumption | (symm; assumption)) (by first | assumption | (symm; assumption)) hx2 hx3]; rfl) | (exfalso; omega)), rfl⟩, hS7.mod⟩
      | false =>
        replace hb4 := hb4.symm
        refine OL.q (Q1.not rfl) rfl rfl ?_
        refine OL.q (Q1.pick_f rfl rfl) rfl rfl ?_
        refine OL.nil ?_
        refine r_cond_t rfl ?_
        refine r_seq ?_
        refine r_region ?_
        refine OL.q (Q1.build (vs := #[]) (v := .agg #[strV [], .int .i64 0, .int .i64 0]) rfl (fun _ => by kernel_rfl)) rfl rfl ?_
        have f3 := hS5.bk (i := 0) rfl
        refine OL.act rfl rfl (AW.store ti48 rfl rfl rfl rfl rfl f3 (Nat.le_of_ble_eq_true rfl) ?_)
        intro w4 hm4 hz2 hk2
        have hS6 : St (fun _ => False) (fun _ => False) w0 w4 [bkR b1 [strV [], .int .i64 0, .int .i64 0] 48, accR Ik.encI 3 1 v2 (((numsM ((l.drop 1))).getD []))] := hS5.bkK (i := 0) rfl hm4 hk2
        refine OL.q (Q1.assign rfl) rfl rfl ?_
        refine OL.nil ?_
        have f4 := hS6.bk (i := 0) rfl
        refine r_retC2 Tryd.func58 rfl rfl ti48 f4.row rfl rfl ?_
        exact Ret.mk ⟨_, _, rfl, (congrArg (fun z_ : Qry => Value.agg #[strV z_.text, .int .i64 z_.k, .int .i64 z_.n]) (a₁ := (Qry.mk [] 0 0)) (by first | (rw [ask_len (by omega)]; rfl) | (rw [ask_no (by omega) hx1 (by first | (left; first | assumption | (symm; assumption)) | (right; first | assumption | (symm; assumption)))]; rfl) | (rw [ask_yes (by omega) hx1 (by first | assumption | (symm; assumption)) (by first | assumption | (symm; assumption)) hx2 hx3]; rfl) | (exfalso; omega))), ⟨_, (by first | (rw [ask_len (by omega)]; rfl) | (rw [ask_no (by omega) hx1 (by first | (left; first | assumption | (symm; assumption)) | (right; first | assumption | (symm; assumption)))]; rfl) | (rw [ask_yes (by omega) hx1 (by first | assumption | (symm; assumption)) (by first | assumption | (symm; assumption)) hx2 hx3]; rfl) | (exfalso; omega)), rfl⟩, hS6.mod⟩
    | false =>
      replace hb3 := hb3.symm
      refine OL.q (Q1.not rfl) rfl rfl ?_
      refine OL.q (Q1.move rfl) rfl rfl ?_
      refine OL.sk rfl rfl ?_
      refine OL.sk rfl rfl ?_
      refine OL.q (Q1.pick_t rfl rfl) rfl rfl ?_
      refine OL.nil ?_
      refine r_cond_t rfl ?_
      refine r_seq ?_
      refine r_region ?_
      refine OL.q (Q1.build (vs := #[]) (v := .agg #[strV [], .int .i64 0, .int .i64 0]) rfl (fun _ => by kernel_rfl)) rfl rfl ?_
      have f3 := hS5.bk (i := 0) rfl
      refine OL.act rfl rfl (AW.store ti48 rfl rfl rfl rfl rfl f3 (Nat.le_of_ble_eq_true rfl) ?_)
      intro w4 hm4 hz2 hk2
      have hS6 : St (fun _ => False) (fun _ => False) w0 w4 [bkR b1 [strV [], .int .i64 0, .int .i64 0] 48, accR Ik.encI 3 1 v2 (((numsM ((l.drop 1))).getD []))] := hS5.bkK (i := 0) rfl hm4 hk2
      refine OL.q (Q1.assign rfl) rfl rfl ?_
      refine OL.nil ?_
      have f4 := hS6.bk (i := 0) rfl
      refine r_retC2 Tryd.func58 rfl rfl ti48 f4.row rfl rfl ?_
      exact Ret.mk ⟨_, _, rfl, (congrArg (fun z_ : Qry => Value.agg #[strV z_.text, .int .i64 z_.k, .int .i64 z_.n]) (a₁ := (Qry.mk [] 0 0)) (by first | (rw [ask_len (by omega)]; rfl) | (rw [ask_no (by omega) hx1 (by first | (left; first | assumption | (symm; assumption)) | (right; first | assumption | (symm; assumption)))]; rfl) | (rw [ask_yes (by omega) hx1 (by first | assumption | (symm; assumption)) (by first | assumption | (symm; assumption)) hx2 hx3]; rfl) | (exfalso; omega))), ⟨_, (by first | (rw [ask_len (by omega)]; rfl) | (rw [ask_no (by omega) hx1 (by first | (left; first | assumption | (symm; assumption)) | (right; first | assumption | (symm; assumption)))]; rfl) | (rw [ask_yes (by omega) hx1 (by first | assumption | (symm; assumption)) (by first | assumption | (symm; assumption)) hx2 hx3]; rfl) | (exfalso; omega)), rfl⟩, hS6.mod⟩
end Go.Proofs
