/-
  The walk through awake.
-/
import Derived.Test.YtajedfbogchkcaaWPlace
import Derived.Test.YtajedfbogchkcaaWShared
set_option linter.unusedVariables false
set_option linter.unusedSimpArgs false
namespace Go.Proofs
open Go.Ik Go.Ml
set_option maxRecDepth 20000 in
set_option maxHeartbeats 4000000 in
theorem awake13_c {w0 : World}    :
    Calls Try.prog 33 #[] w0 (Ret fun rv w1 => (∃ rb : Bool, rb = true ∧ rv = .bool rb) ∧ Ext w0 w1) := by
  have hE0 : Ext w0 w0 := Mod.refl _ _
  refine calls_enter Try.func33 rfl Try.ntmps33 rfl ?_
  refine r_seq ?_
  refine r_region ?_
  refine OL.q (Q1.assign rfl) rfl rfl ?_
  refine OL.nil ?_
  refine r_seq ?_
  refine r_region ?_
  refine OL.q (Q1.build (vs := #[(0, (.int .i64 2 : Value))]) (v := .agg #[.int .i64 2, strV []]) rfl (fun _ => by kernel_rfl)) rfl rfl ?_
  refine OL.q (Q1.build (vs := #[(0, (.int .i64 4 : Value))]) (v := .agg #[.int .i64 4, strV []]) rfl (fun _ => by kernel_rfl)) rfl rfl ?_
  refine OL.act rfl rfl (AW.buildSlice [(.agg #[.int .i64 2, strV []] : Value), (.agg #[.int .i64 4, strV []] : Value)] Try.underlying51 ti126 rfl rfl rfl (by decide) ?_)
  intro w1 b1 hm1 hb1 hz1 hk1
  have hE1 := hE0.ext hm1
  have hs1 := hm1.size
  have hl1 := Sl.of_blk (enc := encKey) hk1 ([(Key.mk 2 []), (Key.mk 4 [])] : List Key) 2 rfl rfl (by unfold maxLen; omega)
  refine OL.q (Q1.build (vs := #[(2, (.int .i64 3 : Value)), (3, (.int .i64 2 : Value)), (4, (.int .i64 1 : Value)), (5, (.int .i64 2 : Value)), (6, (.int .i64 5 : Value)), (7, (.int .i64 3 : Value)), (8, (.int .i64 1 : Value)), (9, (.int .i64 4 : Value)), (11, (.int .i64 8 : Value)), (1, (.slice (some ⟨b1, 0, none⟩) 2 2))]) (v := .agg #[.slice none 0 0, (.slice (some ⟨b1, 0, none⟩) 2 2), .int .i64 3, .int .i64 2, .int .i64 1, .int .i64 2, .int .i64 5, .int .i64 3, .int .i64 1, .int .i64 4, .int .i64 0, .int .i64 8]) rfl (fun _ => by kernel_rfl)) rfl rfl ?_
  refine OL.act rfl rfl (AW.alloc ti53 ?_)
  intro w2 b2 hm2 hb2 hz2 hk2
  have f1 := hl1.ext hm2
  have hE2 := hE1.ext hm2
  have hs2 := hm2.size
  refine OL.act rfl rfl (AW.store ti53 rfl rfl rfl rfl rfl hk2 (Nat.le_of_ble_eq_true rfl) ?_)
  intro w3 hm3 hz3 hk3
  replace hk3 : Bk w3 b2 [.slice none 0 0, (.slice (some ⟨b1, 0, none⟩) 2 2), .int .i64 3, .int .i64 2, .int .i64 1, .int .i64 2, .int .i64 5, .int .i64 3, .int .i64 1, .int .i64 4, .int .i64 0, .int .i64 8] 53 := hk3
  have f2 := f1.keepG hm3 (by omega)
  have hE3 := Ext.thenG hE2 hm3 (by omega)
  have hs3 := hm3.size
  refine OL.nil ?_
  refine r_seq ?_
  refine r_region ?_
  refine OL.q (Q1.loadN ti53 rfl (fun _ e => e ▸ hk3.row) rfl) rfl rfl ?_
  refine OL.act rfl rfl (AW.callF cl39 rfl (may_c (w0 := w3) (c := (Cfg.mk [] ([(Key.mk 2 []), (Key.mk 4 [])]) 3 2 1 2 5 3 1 4 0 8))  Sl.nil ((f2).iv (Nat.zero_le _) (by omega)) (by first | assumption | exact Ml.Cfg.ok_of (by decide +kernel))) ?_)
  rintro _ w4 ⟨⟨b3, hb3, rfl⟩, hm4⟩
  have f3 := f2.ext hm4
  have f4 := hk3.ext hm4
  have hE4 := hE3.ext hm4
  have hs4 := hm4.size
  obtain rfl : b3 = true := hb3.trans (by decide +kernel)
  refine OL.q (Q1.move rfl) rfl rfl ?_
  refine OL.q (Q1.loadN ti53 rfl (fun _ e => e ▸ f4.row) rfl) rfl rfl ?_
  refine OL.act rfl rfl (AW.callF cl41 rfl (shards_c (w0 := w4) (c := (Cfg.mk [] ([(Key.mk 2 []), (Key.mk 4 [])]) 3 2 1 2 5 3 1 4 0 8))  Sl.nil ((f3).iv (Nat.zero_le _) (by omega)) (by first | assumption | exact Ml.Cfg.ok_of (by decide +kernel))) ?_)
  rintro _ w5 ⟨rfl, hm5⟩
  have f5 := f3.ext hm5
  have f6 := f4.ext hm5
  have hE5 := hE4.ext hm5
  have hs5 := hm5.size
  have := Ml.shards_le ((Cfg.mk [] ([(Key.mk 2 []), (Key.mk 4 [])]) 3 2 1 2 5 3 1 4 0 8))
  refine OL.qb (Q1.eq rfl rfl) rfl rfl ?_
  intro b4 hb4
  obtain rfl : b4 = true := hb4.trans (by decide +kernel)
  refine OL.q (Q1.pick_t rfl rfl) rfl rfl ?_
  refine OL.q (Q1.move rfl) rfl rfl ?_
  refine OL.q (Q1.loadN ti53 rfl (fun _ e => e ▸ f6.row) rfl) rfl rfl ?_
  refine OL.act rfl rfl (AW.callF cl34 rfl (copies_c (w0 := w5) (c := (Cfg.mk [] ([(Key.mk 2 []), (Key.mk 4 [])]) 3 2 1 2 5 3 1 4 0 8)) (2) Sl.nil ((f5).iv (Nat.zero_le _) (by omega)) (by first | assumption | exact Ml.Cfg.ok_of (by decide +kernel)) (by first | omega | assumption)) ?_)
  rintro v1 w6 ⟨⟨gr1, h1, hg1⟩, hm6⟩
  have f7 := f5.ext hm6
  have f8 := f6.ext hm6
  have hE6 := hE5.ext hm6
  have hs6 := hm6.size
  have hle_1 := h1.le
  have hlt_1 := h1.lt
  have := copies_len ((Cfg.mk [] ([(Key.mk 2 []), (Key.mk 4 [])]) 3 2 1 2 5 3 1 4 0 8)) 2
  refine OL.act rfl rfl (AW.buildSlice [(.int .i64 3 : Value), (.int .i64 1 : Value)] Try.underlying55 ti3 rfl rfl rfl (by decide) ?_)
  intro w7 b5 hm7 hb5 hz4 hk4
  have hl2 := h1.lt
  have f9 := f7.ext hm7
  have f10 := f8.ext hm7
  have f11 := h1.ext hm7
  have hE7 := hE6.ext hm7
  have hs7 := hm7.size
  have hl3 := Sl.of_blk (enc := Ik.encI) hk4 ([3, 1] : List Int) 2 rfl rfl (by unfold maxLen; omega)
  refine OL.act rfl rfl (AW.callF cl43 rfl (sameI_c (w0 := w7) (a := (Ml.copiesM ((Cfg.mk [] ([(Key.mk 2 []), (Key.mk 4 [])]) 3 2 1 2 5 3 1 4 0 8)) 2)) (b := [3, 1])  ((f11.sl).iv (Nat.zero_le _) (by omega)) ((hl3).iv (Nat.zero_le _) (by omega))) ?_)
  rintro _ w8 ⟨⟨b6, hb6, rfl⟩, hm8⟩
  have hl4 := f11.lt
  have f12 := f9.ext hm8
  have f13 := f10.ext hm8
  have f14 := f11.ext hm8
  have f15 := hl3.ext hm8
  have hE8 := hE7.ext hm8
  have hs8 := hm8.size
  obtain rfl : b6 = true := hb6.trans (by decide +kernel)
  refine OL.q (Q1.pick_t rfl rfl) rfl rfl ?_
  refine OL.q (Q1.move rfl) rfl rfl ?_
  refine OL.q (Q1.loadN ti53 rfl (fun _ e => e ▸ f13.row) rfl) rfl rfl ?_
  refine OL.act rfl rfl (AW.callF cl35 rfl (keeps_c (w0 := w8) (c := (Cfg.mk [] ([(Key.mk 2 []), (Key.mk 4 [])]) 3 2 1 2 5 3 1 4 0 8)) (1) Sl.nil ((f12).iv (Nat.zero_le _) (by omega)) (by first | assumption | exact Ml.Cfg.ok_of (by decide +kernel)) (by first | omega | assumption)) ?_)
  rintro v2 w9 ⟨⟨gr2, h2, hg2⟩, hm9⟩
  have hl5 := f14.lt
  have f16 := f12.ext hm9
  have f17 := f13.ext hm9
  have f18 := f14.ext hm9
  have f19 := f15.ext hm9
  have hE9 := hE8.ext hm9
  have hs9 := hm9.size
  have hle_2 := h2.le
  have hlt_2 := h2.lt
  have := keeps_len ((Cfg.mk [] ([(Key.mk 2 []), (Key.mk 4 [])]) 3 2 1 2 5 3 1 4 0 8)) 1
  refine OL.act rfl rfl (AW.buildSlice [(.int .i64 0 : Value), (.int .i64 2 : Value)] Try.underlying55 ti3 rfl rfl rfl (by decide) ?_)
  intro w10 b7 hm10 hb7 hz5 hk5
  have hl6 := f18.lt
  have hl7 := h2.lt
  have f20 := f16.ext hm10
  have f21 := f17.ext hm10
  have f22 := f18.ext hm10
  have f23 := f19.ext hm10
  have f24 := h2.ext hm10
  have hE10 := hE9.ext hm10
  have hs10 := hm10.size
  have hl8 := Sl.of_blk (enc := Ik.encI) hk5 ([0, 2] : List Int) 2 rfl rfl (by unfold maxLen; omega)
  refine OL.act rfl rfl (AW.callF cl43 rfl (sameI_c (w0 := w10) (a := (Ml.keepsM ((Cfg.mk [] ([(Key.mk 2 []), (Key.mk 4 [])]) 3 2 1 2 5 3 1 4 0 8)) 1)) (b := [0, 2])  ((f24.sl).iv (Nat.zero_le _) (by omega)) ((hl8).iv (Nat.zero_le _) (by omega))) ?_)
  rintro _ w11 ⟨⟨b8, hb8, rfl⟩, hm11⟩
  have hl9 := f22.lt
  have hl10 := f24.lt
  have f25 := f20.ext hm11
  have f26 := f21.ext hm11
  have f27 := f22.ext hm11
  have f28 := f23.ext hm11
  have f29 := f24.ext hm11
  have f30 := hl8.ext hm11
  have hE11 := hE10.ext hm11
  have hs11 := hm11.size
  obtain rfl : b8 = true := hb8.trans (by decide +kernel)
  refine OL.q (Q1.pick_t rfl rfl) rfl rfl ?_
  refine OL.q (Q1.move rfl) rfl rfl ?_
  refine OL.q (Q1.build (vs := #[]) (v := .agg #[.slice none 0 0, .slice none 0 0, .int .i64 0, .int .i64 0, .int .i64 0, .int .i64 0, .int .i64 0, .int .i64 0, .int .i64 0, .int .i64 0, .int .i64 0, .int .i64 0]) rfl (fun _ => by kernel_rfl)) rfl rfl ?_
  refine OL.act rfl rfl (AW.callF cl39 rfl (may_c (w0 := w11) (c := (Cfg.mk [] [] 0 0 0 0 0 0 0 0 0 0))  Sl.nil Sl.nil (by first | assumption | exact Ml.Cfg.ok_of (by decide +kernel))) ?_)
  rintro _ w12 ⟨⟨b9, hb9, rfl⟩, hm12⟩
  have hl11 := f27.lt
  have hl12 := f29.lt
  have f31 := f25.ext hm12
  have f32 := f26.ext hm12
  have f33 := f27.ext hm12
  have f34 := f28.ext hm12
  have f35 := f29.ext hm12
  have f36 := f30.ext hm12
  have hE12 := hE11.ext hm12
  have hs12 := hm12.size
  obtain rfl : b9 = false := hb9.trans (by decide +kernel)
  refine OL.q (Q1.not rfl) rfl rfl ?_
  refine OL.q (Q1.pick_t rfl rfl) rfl rfl ?_
  refine OL.q (Q1.assign rfl) rfl rfl ?_
  refine OL.nil ?_
  refine r_ret1 Try.func33 rfl rfl ?_
  exact Ret.mk ⟨⟨_, (by rfl), rfl⟩, hE12⟩
end Go.Proofs
