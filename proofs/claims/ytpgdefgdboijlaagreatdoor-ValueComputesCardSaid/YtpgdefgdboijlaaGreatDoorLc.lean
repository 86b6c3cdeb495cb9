/- The law of computing: the walk. Printed by gen_lc.py. -/
import Derived.Test.YtpgdefgdboijlaaGreatDoorPr
import Derived.Test.YtpgdefgdboijlaaGreatDoorRt
import Derived.Test.YtpgdefgdboijlaaGreatDoorVd
import Derived.Test.YtpgdefgdboijlaaGreatDoorNf
import Derived.Deep.DeepCutAuto
import Derived.Deep.RegionHeld3
namespace Go.Proofs.YtpgdefgdboijlaaGreatDoor
open Go.RowKit
set_option linter.unusedVariables false
theorem cmp_pe (M : Nat) (hM : M ≤ 1099511627776) (vx vy : Value) (x y : Rat) (c : Int) (hc : cmpQ x y = c) (w : World) (hx : Nm w vx x) (hy : Nm w vy y) (bx : Bq M x) (by_ : Bq M y) :
    Calls Tryz.prog 45 #[vx, vy] w fun e w' => e = .returned (.int .i64 c) ∧ Ext w w' := by
  subst hc; exact cmp_q M hM vx vy x y w hx hy bx by_
theorem Bq.min {M : Nat} {x y : Rat} (h : Bq M x) (k : Bq M y) : Bq M (minQ x y) := by unfold minQ; split <;> assumption
theorem Bq.max {M : Nat} {x y : Rat} (h : Bq M x) (k : Bq M y) : Bq M (maxQ x y) := by unfold maxQ; split <;> assumption
set_option maxRecDepth 100000 in
set_option maxHeartbeats 16000000 in
theorem computes_no1 (u v : List UInt8) (hu : u.length ≤ 9223372036854775807) (hv : v.length ≤ 9223372036854775807) (ku kv : Int) (hku : (parseS u).1 = ku) (hkv : (parseS v).1 = kv) (iv : Bool) (hiu : (ku == 0) = false) (hiv : (kv == 0) = iv) (w : World) (ht : Tab w) :
    Calls Tryz.prog 11 #[.string ⟨u.toArray⟩, .string ⟨v.toArray⟩] w fun e w' => e = .returned (.bool true) ∧ Ext w w' := by
  have P0 := Lib.hid (pair_c u hu ku hku)
  have P1 := Lib.hid (pair_c v hv kv hkv)
  have BX := Lib.hid (show Bq 5000 (parseS u).2 from (parse_small u).mono (by decide))
  have BY := Lib.hid (show Bq 5000 (parseS v).2 from (parse_small v).mono (by decide))
  have HT := Lib.hid ht
  unfold PairR at P0 P1
  rw [hiu] at P0
  rw [hiv] at P1
  generalize (parseS u).2 = x at *
  generalize (parseS v).2 = y at *
  clear hu hv hku hkv hiu hiv ht
  go_enter Tryz.func11, Tryz.ntmps11
  go_wp2_with fail
  refine (P0.out _).mono ?_
  rintro e w1 ⟨va, vb, rfl, ha, hb, kk⟩
  obtain ⟨b1, A1, k1, ca1, B1, l1, cb1, rfl⟩ := ha.form2
  obtain ⟨s2, C2, m2, cc2, D2, n2, cd2, rfl, -, -, -⟩ := hb.form
  have HA := Lib.hid ha
  have HB := Lib.hid hb
  have K1 := Lib.hid kk
  obtain ⟨hs1, hw1⟩ := setupM w1 (.bool b1) (.slice A1 k1 ca1) (.slice B1 l1 cb1) (.int .i64 s2) (.slice C2 m2 cc2) (.slice D2 n2 cd2)
  have HS1 := Lib.hid hs1
  have HW1 := Lib.hid hw1
  clear ha hb kk P0 hs1 hw1
  go_wp2_with fail
  refine (P1.out _).mono ?_
  rintro e w2 ⟨va, vb, rfl, ha, hb, kk⟩
  obtain ⟨b3, A3, k3, ca3, B3, l3, cb3, rfl⟩ := ha.form2
  obtain ⟨s4, C4, m4, cc4, D4, n4, cd4, rfl, -, -, -⟩ := hb.form
  have HC := Lib.hid ha
  have HD := Lib.hid hb
  have K2 := Lib.hid kk
  obtain ⟨hs2, hw2⟩ := setupM w2 (.bool b3) (.slice A3 k3 ca3) (.slice B3 l3 cb3) (.int .i64 s4) (.slice C4 m4 cc4) (.slice D4 n4 cd4)
  have HS2 := Lib.hid hs2
  have HW2 := Lib.hid hw2
  clear ha hb kk P1 hs2 hw2
  go_wp2_with fail
  have KE := Lib.hid (show Ext w ((w2.alloc (.cells #[.bool b3, .slice A3 k3 ca3, .slice B3 l3 cb3] 25)).alloc (.cells #[.int .i64 s4, .slice C4 m4 cc4, .slice D4 n4 cd4] 31)) from ext_trans K1.out (ext_trans HW1.out (ext_trans K2.out HW2.out)))
  refine (awake_c _ (HT.out.mono KE.out)).mono ?_
  rintro e w3 ⟨rfl, k3⟩
  go_wp2_with fail
  go_ret
  exact ⟨rfl, ext_trans KE.out k3⟩
set_option maxRecDepth 100000 in
set_option maxHeartbeats 16000000 in
theorem computes_no2 (u v : List UInt8) (hu : u.length ≤ 9223372036854775807) (hv : v.length ≤ 9223372036854775807) (ku kv : Int) (hku : (parseS u).1 = ku) (hkv : (parseS v).1 = kv) (hiu : (ku == 0) = true) (hiv : (kv == 0) = false) (w : World) (ht : Tab w) :
    Calls Tryz.prog 11 #[.string ⟨u.toArray⟩, .string ⟨v.toArray⟩] w fun e w' => e = .returned (.bool true) ∧ Ext w w' := by
  have P0 := Lib.hid (pair_c u hu ku hku)
  have P1 := Lib.hid (pair_c v hv kv hkv)
  have BX := Lib.hid (show Bq 5000 (parseS u).2 from (parse_small u).mono (by decide))
  have BY := Lib.hid (show Bq 5000 (parseS v).2 from (parse_small v).mono (by decide))
  have HT := Lib.hid ht
  unfold PairR at P0 P1
  rw [hiu] at P0
  rw [hiv] at P1
  generalize (parseS u).2 = x at *
  generalize (parseS v).2 = y at *
  clear hu hv hku hkv hiu hiv ht
  go_enter Tryz.func11, Tryz.ntmps11
  go_wp2_with fail
  refine (P0.out _).mono ?_
  rintro e w1 ⟨va, vb, rfl, ha, hb, kk⟩
  obtain ⟨b1, A1, k1, ca1, B1, l1, cb1, rfl⟩ := ha.form2
  obtain ⟨s2, C2, m2, cc2, D2, n2, cd2, rfl, -, -, -⟩ := hb.form
  have HA := Lib.hid ha
  have HB := Lib.hid hb
  have K1 := Lib.hid kk
  obtain ⟨hs1, hw1⟩ := setupM w1 (.bool b1) (.slice A1 k1 ca1) (.slice B1 l1 cb1) (.int .i64 s2) (.slice C2 m2 cc2) (.slice D2 n2 cd2)
  have HS1 := Lib.hid hs1
  have HW1 := Lib.hid hw1
  clear ha hb kk P0 hs1 hw1
  go_wp2_with fail
  refine (P1.out _).mono ?_
  rintro e w2 ⟨va, vb, rfl, ha, hb, kk⟩
  obtain ⟨b3, A3, k3, ca3, B3, l3, cb3, rfl⟩ := ha.form2
  obtain ⟨s4, C4, m4, cc4, D4, n4, cd4, rfl, -, -, -⟩ := hb.form
  have HC := Lib.hid ha
  have HD := Lib.hid hb
  have K2 := Lib.hid kk
  obtain ⟨hs2, hw2⟩ := setupM w2 (.bool b3) (.slice A3 k3 ca3) (.slice B3 l3 cb3) (.int .i64 s4) (.slice C4 m4 cc4) (.slice D4 n4 cd4)
  have HS2 := Lib.hid hs2
  have HW2 := Lib.hid hw2
  clear ha hb kk P1 hs2 hw2
  go_wp2_with fail
  have KE := Lib.hid (show Ext w ((w2.alloc (.cells #[.bool b3, .slice A3 k3 ca3, .slice B3 l3 cb3] 25)).alloc (.cells #[.int .i64 s4, .slice C4 m4 cc4, .slice D4 n4 cd4] 31)) from ext_trans K1.out (ext_trans HW1.out (ext_trans K2.out HW2.out)))
  refine (awake_c _ (HT.out.mono KE.out)).mono ?_
  rintro e w3 ⟨rfl, k3⟩
  go_wp2_with fail
  go_ret
  exact ⟨rfl, ext_trans KE.out k3⟩
set_option maxRecDepth 100000 in
set_option maxHeartbeats 16000000 in
theorem computes_zero (u v : List UInt8) (hu : u.length ≤ 9223372036854775807) (hv : v.length ≤ 9223372036854775807) (ku kv : Int) (hku : (parseS u).1 = ku) (hkv : (parseS v).1 = kv) (hiu : (ku == 0) = true) (hiv : (kv == 0) = true) (h0 : (parseS v).2 = 0) (w : World) (ht : Tab w) :
    Calls Tryz.prog 11 #[.string ⟨u.toArray⟩, .string ⟨v.toArray⟩] w fun e w' => e = .returned (.bool true) ∧ Ext w w' := by
  have P0 := Lib.hid (pair_c u hu ku hku)
  have P1 := Lib.hid (pair_c v hv kv hkv)
  have BX := Lib.hid (show Bq 5000 (parseS u).2 from (parse_small u).mono (by decide))
  have BY := Lib.hid (show Bq 5000 (parseS v).2 from (parse_small v).mono (by decide))
  have HT := Lib.hid ht
  unfold PairR at P0 P1
  rw [hiu] at P0
  rw [hiv] at P1
  generalize (parseS u).2 = x at *
  generalize (parseS v).2 = y at *
  clear hu hv hku hkv hiu hiv ht
  subst h0
  have HM := Lib.hid (show 20001 ≤ 134217728 by decide)
  go_enter Tryz.func11, Tryz.ntmps11
  go_wp2_with fail
  refine (P0.out _).mono ?_
  rintro e w1 ⟨va, vb, rfl, ha, hb, kk⟩
  obtain ⟨b1, A1, k1, ca1, B1, l1, cb1, rfl⟩ := ha.form2
  obtain ⟨s2, C2, m2, cc2, D2, n2, cd2, rfl, -, -, -⟩ := hb.form
  have HA := Lib.hid ha
  have HB := Lib.hid hb
  have K1 := Lib.hid kk
  obtain ⟨hs1, hw1⟩ := setupM w1 (.bool b1) (.slice A1 k1 ca1) (.slice B1 l1 cb1) (.int .i64 s2) (.slice C2 m2 cc2) (.slice D2 n2 cd2)
  have HS1 := Lib.hid hs1
  have HW1 := Lib.hid hw1
  clear ha hb kk P0 hs1 hw1
  go_wp2_with fail
  refine (P1.out _).mono ?_
  rintro e w2 ⟨va, vb, rfl, ha, hb, kk⟩
  obtain ⟨b3, A3, k3, ca3, B3, l3, cb3, rfl⟩ := ha.form2
  obtain ⟨s4, C4, m4, cc4, D4, n4, cd4, rfl, -, -, -⟩ := hb.form
  have HC := Lib.hid ha
  have HD := Lib.hid hb
  have K2 := Lib.hid kk
  obtain ⟨hs2, hw2⟩ := setupM w2 (.bool b3) (.slice A3 k3 ca3) (.slice B3 l3 cb3) (.int .i64 s4) (.slice C4 m4 cc4) (.slice D4 n4 cd4)
  have HS2 := Lib.hid hs2
  have HW2 := Lib.hid hw2
  clear ha hb kk P1 hs2 hw2
  have NA := Lib.hid (HA.out.mono (ext_trans HW1.out (ext_trans K2.out HW2.out)))
  have NB := Lib.hid (HB.out.mono (ext_trans HW1.out (ext_trans K2.out HW2.out)))
  have NC := Lib.hid (HC.out.mono HW2.out)
  have ND := Lib.hid (HD.out.mono HW2.out)
  obtain ⟨a0, a1, a2, a3, a4, a5⟩ := HS1.out ((w2.alloc (.cells #[.bool b3, .slice A3 k3 ca3, .slice B3 l3 cb3] 25)).alloc (.cells #[.int .i64 s4, .slice C4 m4 cc4, .slice D4 n4 cd4] 31)) (by
    have h := ext_trans HW1.out (ext_trans K2.out HW2.out)
    exact ext_trans (show Ext ((w1.alloc (.cells #[.bool b1, .slice A1 k1 ca1, .slice B1 l1 cb1] 25)).alloc (.cells #[.int .i64 s2, .slice C2 m2 cc2, .slice D2 n2 cd2] 31)) w2 from K2.out) HW2.out)
  obtain ⟨a6, a7, a8, a9, a10, a11⟩ := HS2.out ((w2.alloc (.cells #[.bool b3, .slice A3 k3 ca3, .slice B3 l3 cb3] 25)).alloc (.cells #[.int .i64 s4, .slice C4 m4 cc4, .slice D4 n4 cd4] 31)) (ext_refl _)
  go_wp2_with fail
  refine (div_q_zero _ _ x _ NA.out NC.out).mono ?_
  rintro e w3 ⟨vv, rfl, h9, k9⟩
  obtain ⟨b5, A5, k5, ca5, B5, l5, cb5, rfl⟩ := h9.form2
  have HE5 := Lib.hid h9
  have K3 := Lib.hid (show Ext ((w2.alloc (.cells #[.bool b3, .slice A3 k3 ca3, .slice B3 l3 cb3] 25)).alloc (.cells #[.int .i64 s4, .slice C4 m4 cc4, .slice D4 n4 cd4] 31)) w3 from k9)
  have NB3 := Lib.hid (NB.out.mono (ext_trans k9 (ext_alloc w3 (.cells #[.bool b5, .slice A5 k5 ca5, .slice B5 l5 cb5] 25))))
  have ND3 := Lib.hid (ND.out.mono (ext_trans k9 (ext_alloc w3 (.cells #[.bool b5, .slice A5 k5 ca5, .slice B5 l5 cb5] 25))))
  clear h9 k9 a0 a1 a2 a3 a4 a5 a6 a7 a8 a9 a10 a11
  have KK := Lib.hid (show Ext ((w2.alloc (.cells #[.bool b3, .slice A3 k3 ca3, .slice B3 l3 cb3] 25)).alloc (.cells #[.int .i64 s4, .slice C4 m4 cc4, .slice D4 n4 cd4] 31)) (w3.alloc (.cells #[.bool b5, .slice A5 k5 ca5, .slice B5 l5 cb5] 25)) from ext_trans K3.out (ext_alloc _ _))
  obtain ⟨a0, a1, a2, a3, a4, a5⟩ := HS1.out (w3.alloc (.cells #[.bool b5, .slice A5 k5 ca5, .slice B5 l5 cb5] 25)) (ext_trans (show Ext ((w1.alloc (.cells #[.bool b1, .slice A1 k1 ca1, .slice B1 l1 cb1] 25)).alloc (.cells #[.int .i64 s2, .slice C2 m2 cc2, .slice D2 n2 cd2] 31)) w2 from K2.out) (ext_trans HW2.out KK.out))
  obtain ⟨a6, a7, a8, a9, a10, a11⟩ := HS2.out (w3.alloc (.cells #[.bool b5, .slice A5 k5 ca5, .slice B5 l5 cb5] 25)) KK.out
  go_wp2_with fail
  refine (div_n_zero _ _ x _ NB3.out ND3.out).mono ?_
  rintro e w4 ⟨vv, rfl, h9, k9⟩
  obtain ⟨s6, C6, m6, cc6, D6, n6, cd6, rfl, -, -, -⟩ := h9.form
  have HF := Lib.hid h9
  have K4 := Lib.hid (show Ext (w3.alloc (.cells #[.bool b5, .slice A5 k5 ca5, .slice B5 l5 cb5] 25)) w4 from k9)
  clear h9 k9 a0 a1 a2 a3 a4 a5 a6 a7 a8 a9 a10 a11 NB3 ND3
  go_upto_region 7 with (fail)
  have F4 := ext_alloc w4 (.cells #[.int .i64 s6, .slice C6 m6 cc6, .slice D6 n6 cd6] 31)
  have F3 := ext_trans K4.out F4
  have F2 := ext_trans KK.out F3
  have TB := Lib.hid (HT.out.mono (ext_trans K1.out (ext_trans HW1.out (ext_trans K2.out (ext_trans HW2.out F2)))))
  have EX := Lib.hid (ext_trans K1.out (ext_trans HW1.out (ext_trans K2.out (ext_trans HW2.out F2))))
  have NX := Lib.hid (NA.out.mono F2)
  have NXR := Lib.hid (NB.out.mono F2)
  have NY := Lib.hid (NC.out.mono F2)
  have NYR := Lib.hid (ND.out.mono F2)
  have NQ := Lib.hid (HE5.out.mono (ext_trans (ext_alloc w3 (.cells #[.bool b5, .slice A5 k5 ca5, .slice B5 l5 cb5] 25)) F3))
  have NQR := Lib.hid (HF.out.mono F4)
  have BQ := Lib.hid (show Bq 20001 0 from bq_zero _ (by decide))
  have HS := Lib.hid (show ∀ W : World, Ext (w4.alloc (.cells #[.int .i64 s6, .slice C6 m6 cc6, .slice D6 n6 cd6] 31)) W → W.cell? ⟨w1.heap.size, 0, none⟩ = some (.bool b1) ∧ W.cell? ⟨w1.heap.size, 1, none⟩ = some (.slice A1 k1 ca1) ∧ W.cell? ⟨w1.heap.size, 2, none⟩ = some (.slice B1 l1 cb1) ∧ W.cell? ⟨w1.heap.size + 1, 0, none⟩ = some (.int .i64 s2) ∧ W.cell? ⟨w1.heap.size + 1, 1, none⟩ = some (.slice C2 m2 cc2) ∧ W.cell? ⟨w1.heap.size + 1, 2, none⟩ = some (.slice D2 n2 cd2) ∧ W.cell? ⟨w2.heap.size, 0, none⟩ = some (.bool b3) ∧ W.cell? ⟨w2.heap.size, 1, none⟩ = some (.slice A3 k3 ca3) ∧ W.cell? ⟨w2.heap.size, 2, none⟩ = some (.slice B3 l3 cb3) ∧ W.cell? ⟨w2.heap.size + 1, 0, none⟩ = some (.int .i64 s4) ∧ W.cell? ⟨w2.heap.size + 1, 1, none⟩ = some (.slice C4 m4 cc4) ∧ W.cell? ⟨w2.heap.size + 1, 2, none⟩ = some (.slice D4 n4 cd4) ∧ W.cell? ⟨w3.heap.size, 0, none⟩ = some (.bool b5) ∧ W.cell? ⟨w3.heap.size, 1, none⟩ = some (.slice A5 k5 ca5) ∧ W.cell? ⟨w3.heap.size, 2, none⟩ = some (.slice B5 l5 cb5) ∧ W.cell? ⟨w4.heap.size, 0, none⟩ = some (.int .i64 s6) ∧ W.cell? ⟨w4.heap.size, 1, none⟩ = some (.slice C6 m6 cc6) ∧ W.cell? ⟨w4.heap.size, 2, none⟩ = some (.slice D6 n6 cd6) from fun W h => by
    obtain ⟨c0, c1, c2, c3, c4, c5⟩ := HS1.out W (ext_trans (show Ext ((w1.alloc (.cells #[.bool b1, .slice A1 k1 ca1, .slice B1 l1 cb1] 25)).alloc (.cells #[.int .i64 s2, .slice C2 m2 cc2, .slice D2 n2 cd2] 31)) w2 from K2.out) (ext_trans HW2.out (ext_trans F2 h)))
    obtain ⟨c6, c7, c8, c9, c10, c11⟩ := HS2.out W (ext_trans F2 h)
    obtain ⟨c12, c13, c14, -⟩ := row3_0 (row3 (ext_trans F3 h))
    obtain ⟨c15, c16, c17, -⟩ := rowR_0 (rowR h)
    exact ⟨c0, c1, c2, c3, c4, c5, c6, c7, c8, c9, c10, c11, c12, c13, c14, c15, c16, c17⟩)
  clear F2 F3 F4 K1 K2 K3 K4 KK HW1 HW2 HS1 HS2 HA HB HC HD HE5 HF NA NB NC ND HT
  generalize World.alloc w4 (.cells #[.int .i64 s6, .slice C6 m6 cc6, .slice D6 n6 cd6] _) = WR at *
  generalize w1.heap.size = g1 at *
  generalize w2.heap.size = g2 at *
  generalize w3.heap.size = g3 at *
  generalize w4.heap.size = g4 at *
  obtain ⟨cc, hcc⟩ : ∃ c, cmpQ x 0 = c := ⟨_, rfl⟩
  have HCC := Lib.hid hcc
  clear hcc
  go_cut [93] (fun r wx => r = .bool false ∧ Hid (Ext WR wx))
  case first =>
    have hS0 := HS.out WR (ext_refl WR)
    have e1 := Lib.hid (ext_drew WR)
    have hx1 := Lib.hid (ext_trans (ext_refl WR) (ext_drew WR))
    go_region_held3 (fun W => W.cell? ⟨g1, 0, none⟩ = some (.bool b1) ∧ W.cell? ⟨g1, 1, none⟩ = some (.slice A1 k1 ca1) ∧ W.cell? ⟨g1, 2, none⟩ = some (.slice B1 l1 cb1) ∧ W.cell? ⟨g1 + 1, 0, none⟩ = some (.int .i64 s2) ∧ W.cell? ⟨g1 + 1, 1, none⟩ = some (.slice C2 m2 cc2) ∧ W.cell? ⟨g1 + 1, 2, none⟩ = some (.slice D2 n2 cd2) ∧ W.cell? ⟨g2, 0, none⟩ = some (.bool b3) ∧ W.cell? ⟨g2, 1, none⟩ = some (.slice A3 k3 ca3) ∧ W.cell? ⟨g2, 2, none⟩ = some (.slice B3 l3 cb3) ∧ W.cell? ⟨g2 + 1, 0, none⟩ = some (.int .i64 s4) ∧ W.cell? ⟨g2 + 1, 1, none⟩ = some (.slice C4 m4 cc4) ∧ W.cell? ⟨g2 + 1, 2, none⟩ = some (.slice D4 n4 cd4) ∧ W.cell? ⟨g3, 0, none⟩ = some (.bool b5) ∧ W.cell? ⟨g3, 1, none⟩ = some (.slice A5 k5 ca5) ∧ W.cell? ⟨g3, 2, none⟩ = some (.slice B5 l5 cb5) ∧ W.cell? ⟨g4, 0, none⟩ = some (.int .i64 s6) ∧ W.cell? ⟨g4, 1, none⟩ = some (.slice C6 m6 cc6) ∧ W.cell? ⟨g4, 2, none⟩ = some (.slice D6 n6 cd6))
      (first
        | exact HS.out _ hx13.out
        | exact HS.out _ hx12.out
        | exact HS.out _ hx11.out
        | exact HS.out _ hx10.out
        | exact HS.out _ hx9.out
        | exact HS.out _ hx8.out
        | exact HS.out _ hx7.out
        | exact HS.out _ hx6.out
        | exact HS.out _ hx5.out
        | exact HS.out _ hx4.out
        | exact HS.out _ hx3.out
        | exact HS.out _ hx2.out
        | exact HS.out _ hx1.out)
      (first
        | (have _q := hx12
           go_at_call 18
           refine (same_c 20001 (by decide) _ _ (x * 0) _ (J2.out.mono e12.out) JR2.out ((BX.out.mul BY.out).mono (by decide)) (TB.out.mono hx12.out).2).mono ?_
           clear _q
           rintro e wx12 ⟨rfl, k9⟩
           have e13 := Lib.hid k9
           have hx13 := Lib.hid (ext_trans hx12.out k9)
           clear k9)
        | (have _q := hx11
           go_at_call 30
           refine (mul_n 5000 (by decide) _ _ x 0 _ (NXR.out.mono hx11.out) (NYR.out.mono hx11.out) BX.out BY.out).mono ?_
           clear _q
           rintro e wx11 ⟨vv, rfl, h9, k9⟩
           obtain ⟨s15, C15, m15, cc15, D15, n15, cd15, rfl, -, -, -⟩ := h9.form
           have JR2 := Lib.hid h9
           clear h9
           have e12 := Lib.hid k9
           have hx12 := Lib.hid (ext_trans hx11.out k9)
           clear k9)
        | (have _q := hx10
           go_at_call 29
           refine (mul_q 5000 (by decide) _ _ x 0 _ (NX.out.mono hx10.out) (NY.out.mono hx10.out) BX.out BY.out).mono ?_
           clear _q
           rintro e wx10 ⟨vv, rfl, h9, k9⟩
           obtain ⟨b14, A14, k14, ca14, B14, l14, cb14, rfl⟩ := h9.form2
           have J2 := Lib.hid h9
           clear h9
           have e11 := Lib.hid k9
           have hx11 := Lib.hid (ext_trans hx10.out k9)
           clear k9)
        | (have _q := hx9
           go_at_call 18
           refine (same_c 20001 (by decide) _ _ (x - 0) _ (J1.out.mono e9.out) JR1.out ((BX.out.sub BY.out).mono (by decide)) (TB.out.mono hx9.out).2).mono ?_
           clear _q
           rintro e wx9 ⟨rfl, k9⟩
           have e10 := Lib.hid k9
           have hx10 := Lib.hid (ext_trans hx9.out k9)
           clear k9)
        | (have _q := hx8
           go_at_call 58
           refine (sub_n 5000 (by decide) _ _ x 0 _ (NXR.out.mono hx8.out) (NYR.out.mono hx8.out) BX.out BY.out).mono ?_
           clear _q
           rintro e wx8 ⟨vv, rfl, h9, k9⟩
           obtain ⟨s13, C13, m13, cc13, D13, n13, cd13, rfl, -, -, -⟩ := h9.form
           have JR1 := Lib.hid h9
           clear h9
           have e9 := Lib.hid k9
           have hx9 := Lib.hid (ext_trans hx8.out k9)
           clear k9)
        | (have _q := hx7
           go_at_call 51
           refine (sub_q 5000 (by decide) _ _ x 0 _ (NX.out.mono hx7.out) (NY.out.mono hx7.out) BX.out BY.out).mono ?_
           clear _q
           rintro e wx7 ⟨vv, rfl, h9, k9⟩
           obtain ⟨b12, A12, k12, ca12, B12, l12, cb12, rfl⟩ := h9.form2
           have J1 := Lib.hid h9
           clear h9
           have e8 := Lib.hid k9
           have hx8 := Lib.hid (ext_trans hx7.out k9)
           clear k9)
        | (have _q := hx6
           go_at_call 18
           refine (same_c 20001 (by decide) _ _ (x + 0) _ (J0.out.mono e6.out) JR0.out ((BX.out.add BY.out).mono (by decide)) (TB.out.mono hx6.out).2).mono ?_
           clear _q
           rintro e wx6 ⟨rfl, k9⟩
           have e7 := Lib.hid k9
           have hx7 := Lib.hid (ext_trans hx6.out k9)
           clear k9)
        | (have _q := hx5
           go_at_call 57
           refine (add_n 5000 (by decide) _ _ x 0 _ (NXR.out.mono hx5.out) (NYR.out.mono hx5.out) BX.out BY.out).mono ?_
           clear _q
           rintro e wx5 ⟨vv, rfl, h9, k9⟩
           obtain ⟨s11, C11, m11, cc11, D11, n11, cd11, rfl, -, -, -⟩ := h9.form
           have JR0 := Lib.hid h9
           clear h9
           have e6 := Lib.hid k9
           have hx6 := Lib.hid (ext_trans hx5.out k9)
           clear k9)
        | (have _q := hx4
           go_at_call 50
           refine (add_q 5000 (by decide) _ _ x 0 _ (NX.out.mono hx4.out) (NY.out.mono hx4.out) BX.out BY.out).mono ?_
           clear _q
           rintro e wx4 ⟨vv, rfl, h9, k9⟩
           obtain ⟨b10, A10, k10, ca10, B10, l10, cb10, rfl⟩ := h9.form2
           have J0 := Lib.hid h9
           clear h9
           have e5 := Lib.hid k9
           have hx5 := Lib.hid (ext_trans hx4.out k9)
           clear k9)
        | (have _q := hx3
           go_at_call 56
           refine (cmp_e 5000 (by decide) _ _ x 0 cc HCC.out _ (NXR.out.mono hx3.out) (NYR.out.mono hx3.out) BX.out BY.out).mono ?_
           clear _q
           rintro e wx3 ⟨rfl, k9⟩
           have e4 := Lib.hid k9
           have hx4 := Lib.hid (ext_trans hx3.out k9)
           clear k9)
        | (have _q := hx2
           go_at_call 45
           refine (cmp_pe 5000 (by decide) _ _ x 0 cc HCC.out _ (NX.out.mono hx2.out) (NY.out.mono hx2.out) BX.out BY.out).mono ?_
           clear _q
           rintro e wx2 ⟨rfl, k9⟩
           have e3 := Lib.hid k9
           have hx3 := Lib.hid (ext_trans hx2.out k9)
           clear k9)
        | (have _q := hx1
           go_at_call 18
           refine (same_c 20001 (by decide) _ _ 0 _ (NQ.out.mono hx1.out) (NQR.out.mono hx1.out) (BQ.out) (TB.out.mono hx1.out).2).mono ?_
           clear _q
           rintro e wx1 ⟨rfl, k9⟩
           have e2 := Lib.hid k9
           have hx2 := Lib.hid (ext_trans hx1.out k9)
           clear k9))
    all_goals
      go_wp2_with fail
      go_meet
      exact ⟨rfl, hx13⟩
  case rest =>
   obtain ⟨rfl, HX7⟩ := hcut
   rename World => WS
   go_upto_region 9 with (fail)
   go_cut [127] (fun r wx => r = .bool false ∧ Hid (Ext WR wx))
   case first =>
    have hS0 := HS.out WS HX7.out
    have e1 := Lib.hid (ext_drew WS)
    have hx1 := Lib.hid (ext_trans HX7.out (ext_drew WS))
    go_region_held3 (fun W => W.cell? ⟨g1, 0, none⟩ = some (.bool b1) ∧ W.cell? ⟨g1, 1, none⟩ = some (.slice A1 k1 ca1) ∧ W.cell? ⟨g1, 2, none⟩ = some (.slice B1 l1 cb1) ∧ W.cell? ⟨g1 + 1, 0, none⟩ = some (.int .i64 s2) ∧ W.cell? ⟨g1 + 1, 1, none⟩ = some (.slice C2 m2 cc2) ∧ W.cell? ⟨g1 + 1, 2, none⟩ = some (.slice D2 n2 cd2) ∧ W.cell? ⟨g2, 0, none⟩ = some (.bool b3) ∧ W.cell? ⟨g2, 1, none⟩ = some (.slice A3 k3 ca3) ∧ W.cell? ⟨g2, 2, none⟩ = some (.slice B3 l3 cb3) ∧ W.cell? ⟨g2 + 1, 0, none⟩ = some (.int .i64 s4) ∧ W.cell? ⟨g2 + 1, 1, none⟩ = some (.slice C4 m4 cc4) ∧ W.cell? ⟨g2 + 1, 2, none⟩ = some (.slice D4 n4 cd4) ∧ W.cell? ⟨g3, 0, none⟩ = some (.bool b5) ∧ W.cell? ⟨g3, 1, none⟩ = some (.slice A5 k5 ca5) ∧ W.cell? ⟨g3, 2, none⟩ = some (.slice B5 l5 cb5) ∧ W.cell? ⟨g4, 0, none⟩ = some (.int .i64 s6) ∧ W.cell? ⟨g4, 1, none⟩ = some (.slice C6 m6 cc6) ∧ W.cell? ⟨g4, 2, none⟩ = some (.slice D6 n6 cd6))
      (first
        | exact HS.out _ hx13.out
        | exact HS.out _ hx12.out
        | exact HS.out _ hx11.out
        | exact HS.out _ hx10.out
        | exact HS.out _ hx9.out
        | exact HS.out _ hx8.out
        | exact HS.out _ hx7.out
        | exact HS.out _ hx6.out
        | exact HS.out _ hx5.out
        | exact HS.out _ hx4.out
        | exact HS.out _ hx3.out
        | exact HS.out _ hx2.out
        | exact HS.out _ hx1.out)
      (first
        | (have _q := hx12
           go_at_call 18
           refine (same_c 20001 (by decide) _ _ (absQ x) _ (J3.out.mono e12.out) JR3.out ((Bq.abs BX.out).mono (by decide)) (TB.out.mono hx12.out).2).mono ?_
           clear _q
           rintro e wx12 ⟨rfl, k9⟩
           have e13 := Lib.hid k9
           have hx13 := Lib.hid (ext_trans hx12.out k9)
           clear k9)
        | (have _q := hx11
           go_at_call 65
           refine (abs_n _ x _ (NXR.out.mono hx11.out)).mono ?_
           clear _q
           rintro e wx11 ⟨vv, rfl, h9, k9⟩
           obtain ⟨s17, C17, m17, cc17, D17, n17, cd17, rfl, -, -, -⟩ := h9.form
           have JR3 := Lib.hid h9
           clear h9
           have e12 := Lib.hid k9
           have hx12 := Lib.hid (ext_trans hx11.out k9)
           clear k9)
        | (have _q := hx10
           go_at_call 64
           refine (abs_q _ x _ (NX.out.mono hx10.out)).mono ?_
           clear _q
           rintro e wx10 ⟨vv, rfl, h9, k9⟩
           obtain ⟨b16, A16, k16, ca16, B16, l16, cb16, rfl⟩ := h9.form2
           have J3 := Lib.hid h9
           clear h9
           have e11 := Lib.hid k9
           have hx11 := Lib.hid (ext_trans hx10.out k9)
           clear k9)
        | (have _q := hx9
           go_at_call 18
           refine (same_c 20001 (by decide) _ _ (-x) _ (J2.out.mono e9.out) JR2.out (BX.out.neg.mono (by decide)) (TB.out.mono hx9.out).2).mono ?_
           clear _q
           rintro e wx9 ⟨rfl, k9⟩
           have e10 := Lib.hid k9
           have hx10 := Lib.hid (ext_trans hx9.out k9)
           clear k9)
        | (have _q := hx8
           go_at_call 63
           refine (neg_n _ x _ (NXR.out.mono hx8.out)).mono ?_
           clear _q
           rintro e wx8 ⟨vv, rfl, h9, k9⟩
           obtain ⟨s15, C15, m15, cc15, D15, n15, cd15, rfl, -, -, -⟩ := h9.form
           have JR2 := Lib.hid h9
           clear h9
           have e9 := Lib.hid k9
           have hx9 := Lib.hid (ext_trans hx8.out k9)
           clear k9)
        | (have _q := hx7
           go_at_call 47
           refine (neg_q _ x _ (NX.out.mono hx7.out)).mono ?_
           clear _q
           rintro e wx7 ⟨vv, rfl, h9, k9⟩
           obtain ⟨b14, A14, k14, ca14, B14, l14, cb14, rfl⟩ := h9.form2
           have J2 := Lib.hid h9
           clear h9
           have e8 := Lib.hid k9
           have hx8 := Lib.hid (ext_trans hx7.out k9)
           clear k9)
        | (have _q := hx6
           go_at_call 18
           refine (same_c 20001 (by decide) _ _ (maxQ x 0) _ (J1.out.mono e6.out) JR1.out ((BX.out.max BY.out).mono (by decide)) (TB.out.mono hx6.out).2).mono ?_
           clear _q
           rintro e wx6 ⟨rfl, k9⟩
           have e7 := Lib.hid k9
           have hx7 := Lib.hid (ext_trans hx6.out k9)
           clear k9)
        | (have _q := hx5
           go_at_call 62
           refine (max_n 5000 (by decide) _ _ x 0 _ (NXR.out.mono hx5.out) (NYR.out.mono hx5.out) BX.out BY.out).mono ?_
           clear _q
           rintro e wx5 ⟨vv, rfl, h9, k9⟩
           obtain ⟨s13, C13, m13, cc13, D13, n13, cd13, rfl, -, -, -⟩ := h9.form
           have JR1 := Lib.hid h9
           clear h9
           have e6 := Lib.hid k9
           have hx6 := Lib.hid (ext_trans hx5.out k9)
           clear k9)
        | (have _q := hx4
           go_at_call 61
           refine (max_q 5000 (by decide) _ _ x 0 _ (NX.out.mono hx4.out) (NY.out.mono hx4.out) BX.out BY.out).mono ?_
           clear _q
           rintro e wx4 ⟨vv, rfl, h9, k9⟩
           obtain ⟨b12, A12, k12, ca12, B12, l12, cb12, rfl⟩ := h9.form2
           have J1 := Lib.hid h9
           clear h9
           have e5 := Lib.hid k9
           have hx5 := Lib.hid (ext_trans hx4.out k9)
           clear k9)
        | (have _q := hx3
           go_at_call 18
           refine (same_c 20001 (by decide) _ _ (minQ x 0) _ (J0.out.mono e3.out) JR0.out ((BX.out.min BY.out).mono (by decide)) (TB.out.mono hx3.out).2).mono ?_
           clear _q
           rintro e wx3 ⟨rfl, k9⟩
           have e4 := Lib.hid k9
           have hx4 := Lib.hid (ext_trans hx3.out k9)
           clear k9)
        | (have _q := hx2
           go_at_call 60
           refine (min_n 5000 (by decide) _ _ x 0 _ (NXR.out.mono hx2.out) (NYR.out.mono hx2.out) BX.out BY.out).mono ?_
           clear _q
           rintro e wx2 ⟨vv, rfl, h9, k9⟩
           obtain ⟨s11, C11, m11, cc11, D11, n11, cd11, rfl, -, -, -⟩ := h9.form
           have JR0 := Lib.hid h9
           clear h9
           have e3 := Lib.hid k9
           have hx3 := Lib.hid (ext_trans hx2.out k9)
           clear k9)
        | (have _q := hx1
           go_at_call 59
           refine (min_q 5000 (by decide) _ _ x 0 _ (NX.out.mono hx1.out) (NY.out.mono hx1.out) BX.out BY.out).mono ?_
           clear _q
           rintro e wx1 ⟨vv, rfl, h9, k9⟩
           obtain ⟨b10, A10, k10, ca10, B10, l10, cb10, rfl⟩ := h9.form2
           have J0 := Lib.hid h9
           clear h9
           have e2 := Lib.hid k9
           have hx2 := Lib.hid (ext_trans hx1.out k9)
           clear k9))
    all_goals
      go_wp2_with fail
      go_meet
      exact ⟨rfl, hx13⟩
   case rest =>
   obtain ⟨rfl, HX9⟩ := hcut
   rename World => WT
   go_upto_region 11 with (fail)
   have hsg : ∃ s, x.num.sign = s := ⟨_, rfl⟩
   obtain ⟨sx, hsx⟩ := hsg
   have HSX := Lib.hid hsx
   clear hsx
   have hS0 := HS.out WT HX9.out
   have e1 := Lib.hid (ext_drew WT)
   have hx1 := Lib.hid (ext_trans HX9.out (ext_drew WT))
   go_region_held3 (fun W => W.cell? ⟨g1, 0, none⟩ = some (.bool b1) ∧ W.cell? ⟨g1, 1, none⟩ = some (.slice A1 k1 ca1) ∧ W.cell? ⟨g1, 2, none⟩ = some (.slice B1 l1 cb1) ∧ W.cell? ⟨g1 + 1, 0, none⟩ = some (.int .i64 s2) ∧ W.cell? ⟨g1 + 1, 1, none⟩ = some (.slice C2 m2 cc2) ∧ W.cell? ⟨g1 + 1, 2, none⟩ = some (.slice D2 n2 cd2) ∧ W.cell? ⟨g2, 0, none⟩ = some (.bool b3) ∧ W.cell? ⟨g2, 1, none⟩ = some (.slice A3 k3 ca3) ∧ W.cell? ⟨g2, 2, none⟩ = some (.slice B3 l3 cb3) ∧ W.cell? ⟨g2 + 1, 0, none⟩ = some (.int .i64 s4) ∧ W.cell? ⟨g2 + 1, 1, none⟩ = some (.slice C4 m4 cc4) ∧ W.cell? ⟨g2 + 1, 2, none⟩ = some (.slice D4 n4 cd4) ∧ W.cell? ⟨g3, 0, none⟩ = some (.bool b5) ∧ W.cell? ⟨g3, 1, none⟩ = some (.slice A5 k5 ca5) ∧ W.cell? ⟨g3, 2, none⟩ = some (.slice B5 l5 cb5) ∧ W.cell? ⟨g4, 0, none⟩ = some (.int .i64 s6) ∧ W.cell? ⟨g4, 1, none⟩ = some (.slice C6 m6 cc6) ∧ W.cell? ⟨g4, 2, none⟩ = some (.slice D6 n6 cd6))
     (first
       | exact HS.out _ hx4.out
       | exact HS.out _ hx3.out
       | exact HS.out _ hx2.out
       | exact HS.out _ hx1.out)
     (first
       | (have _q := hx3
          go_at_call 19
          refine (awake_c _ (TB.out.mono hx3.out)).mono ?_
          clear _q
          rintro e wx3 ⟨rfl, k9⟩
          have e4 := Lib.hid k9
          have hx4 := Lib.hid (ext_trans hx3.out k9)
          clear k9)
       | (have _q := hx2
          go_at_call 66
          refine (sign_n _ x sx HSX.out _ (NXR.out.mono hx2.out)).mono ?_
          clear _q
          rintro e wx2 ⟨rfl, k9⟩
          have e3 := Lib.hid k9
          have hx3 := Lib.hid (ext_trans hx2.out k9)
          clear k9)
       | (have _q := hx1
          go_at_call 52
          refine (sign_q' _ x _ sx HSX.out (NX.out.mono hx1.out)).mono ?_
          clear _q
          rintro e wx1 ⟨rfl, k9⟩
          have e2 := Lib.hid k9
          have hx2 := Lib.hid (ext_trans hx1.out k9)
          clear k9))
   all_goals
     go_wp2_with fail
     go_ret
     exact ⟨by simp, ext_trans EX.out hx4.out⟩
set_option maxRecDepth 100000 in
set_option maxHeartbeats 16000000 in
theorem computes_ok (u v : List UInt8) (hu : u.length ≤ 9223372036854775807) (hv : v.length ≤ 9223372036854775807) (ku kv : Int) (hku : (parseS u).1 = ku) (hkv : (parseS v).1 = kv) (hiu : (ku == 0) = true) (hiv : (kv == 0) = true) (h0 : (parseS v).2 ≠ 0) (w : World) (ht : Tab w) :
    Calls Tryz.prog 11 #[.string ⟨u.toArray⟩, .string ⟨v.toArray⟩] w fun e w' => e = .returned (.bool true) ∧ Ext w w' := by
  have P0 := Lib.hid (pair_c u hu ku hku)
  have P1 := Lib.hid (pair_c v hv kv hkv)
  have BX := Lib.hid (show Bq 5000 (parseS u).2 from (parse_small u).mono (by decide))
  have BY := Lib.hid (show Bq 5000 (parseS v).2 from (parse_small v).mono (by decide))
  have HT := Lib.hid ht
  unfold PairR at P0 P1
  rw [hiu] at P0
  rw [hiv] at P1
  generalize (parseS u).2 = x at *
  generalize (parseS v).2 = y at *
  have H0 := Lib.hid h0
  clear hu hv hku hkv hiu hiv ht h0
  have HM := Lib.hid (show 20001 ≤ 134217728 by decide)
  go_enter Tryz.func11, Tryz.ntmps11
  go_wp2_with fail
  refine (P0.out _).mono ?_
  rintro e w1 ⟨va, vb, rfl, ha, hb, kk⟩
  obtain ⟨b1, A1, k1, ca1, B1, l1, cb1, rfl⟩ := ha.form2
  obtain ⟨s2, C2, m2, cc2, D2, n2, cd2, rfl, -, -, -⟩ := hb.form
  have HA := Lib.hid ha
  have HB := Lib.hid hb
  have K1 := Lib.hid kk
  obtain ⟨hs1, hw1⟩ := setupM w1 (.bool b1) (.slice A1 k1 ca1) (.slice B1 l1 cb1) (.int .i64 s2) (.slice C2 m2 cc2) (.slice D2 n2 cd2)
  have HS1 := Lib.hid hs1
  have HW1 := Lib.hid hw1
  clear ha hb kk P0 hs1 hw1
  go_wp2_with fail
  refine (P1.out _).mono ?_
  rintro e w2 ⟨va, vb, rfl, ha, hb, kk⟩
  obtain ⟨b3, A3, k3, ca3, B3, l3, cb3, rfl⟩ := ha.form2
  obtain ⟨s4, C4, m4, cc4, D4, n4, cd4, rfl, -, -, -⟩ := hb.form
  have HC := Lib.hid ha
  have HD := Lib.hid hb
  have K2 := Lib.hid kk
  obtain ⟨hs2, hw2⟩ := setupM w2 (.bool b3) (.slice A3 k3 ca3) (.slice B3 l3 cb3) (.int .i64 s4) (.slice C4 m4 cc4) (.slice D4 n4 cd4)
  have HS2 := Lib.hid hs2
  have HW2 := Lib.hid hw2
  clear ha hb kk P1 hs2 hw2
  have NA := Lib.hid (HA.out.mono (ext_trans HW1.out (ext_trans K2.out HW2.out)))
  have NB := Lib.hid (HB.out.mono (ext_trans HW1.out (ext_trans K2.out HW2.out)))
  have NC := Lib.hid (HC.out.mono HW2.out)
  have ND := Lib.hid (HD.out.mono HW2.out)
  obtain ⟨a0, a1, a2, a3, a4, a5⟩ := HS1.out ((w2.alloc (.cells #[.bool b3, .slice A3 k3 ca3, .slice B3 l3 cb3] 25)).alloc (.cells #[.int .i64 s4, .slice C4 m4 cc4, .slice D4 n4 cd4] 31)) (by
    have h := ext_trans HW1.out (ext_trans K2.out HW2.out)
    exact ext_trans (show Ext ((w1.alloc (.cells #[.bool b1, .slice A1 k1 ca1, .slice B1 l1 cb1] 25)).alloc (.cells #[.int .i64 s2, .slice C2 m2 cc2, .slice D2 n2 cd2] 31)) w2 from K2.out) HW2.out)
  obtain ⟨a6, a7, a8, a9, a10, a11⟩ := HS2.out ((w2.alloc (.cells #[.bool b3, .slice A3 k3 ca3, .slice B3 l3 cb3] 25)).alloc (.cells #[.int .i64 s4, .slice C4 m4 cc4, .slice D4 n4 cd4] 31)) (ext_refl _)
  go_wp2_with fail
  refine (div_q 5000 (by decide) _ _ x y _ NA.out NC.out BX.out BY.out H0.out).mono ?_
  rintro e w3 ⟨vv, rfl, h9, k9⟩
  obtain ⟨b5, A5, k5, ca5, B5, l5, cb5, rfl⟩ := h9.form2
  have HE5 := Lib.hid h9
  have K3 := Lib.hid (show Ext ((w2.alloc (.cells #[.bool b3, .slice A3 k3 ca3, .slice B3 l3 cb3] 25)).alloc (.cells #[.int .i64 s4, .slice C4 m4 cc4, .slice D4 n4 cd4] 31)) w3 from k9)
  have NB3 := Lib.hid (NB.out.mono (ext_trans k9 (ext_alloc w3 (.cells #[.bool b5, .slice A5 k5 ca5, .slice B5 l5 cb5] 25))))
  have ND3 := Lib.hid (ND.out.mono (ext_trans k9 (ext_alloc w3 (.cells #[.bool b5, .slice A5 k5 ca5, .slice B5 l5 cb5] 25))))
  clear h9 k9 a0 a1 a2 a3 a4 a5 a6 a7 a8 a9 a10 a11
  have KK := Lib.hid (show Ext ((w2.alloc (.cells #[.bool b3, .slice A3 k3 ca3, .slice B3 l3 cb3] 25)).alloc (.cells #[.int .i64 s4, .slice C4 m4 cc4, .slice D4 n4 cd4] 31)) (w3.alloc (.cells #[.bool b5, .slice A5 k5 ca5, .slice B5 l5 cb5] 25)) from ext_trans K3.out (ext_alloc _ _))
  obtain ⟨a0, a1, a2, a3, a4, a5⟩ := HS1.out (w3.alloc (.cells #[.bool b5, .slice A5 k5 ca5, .slice B5 l5 cb5] 25)) (ext_trans (show Ext ((w1.alloc (.cells #[.bool b1, .slice A1 k1 ca1, .slice B1 l1 cb1] 25)).alloc (.cells #[.int .i64 s2, .slice C2 m2 cc2, .slice D2 n2 cd2] 31)) w2 from K2.out) (ext_trans HW2.out KK.out))
  obtain ⟨a6, a7, a8, a9, a10, a11⟩ := HS2.out (w3.alloc (.cells #[.bool b5, .slice A5 k5 ca5, .slice B5 l5 cb5] 25)) KK.out
  go_wp2_with fail
  refine (div_n 5000 (by decide) _ _ x y _ NB3.out ND3.out BX.out BY.out H0.out).mono ?_
  rintro e w4 ⟨vv, rfl, h9, k9⟩
  obtain ⟨s6, C6, m6, cc6, D6, n6, cd6, rfl, -, -, -⟩ := h9.form
  have HF := Lib.hid h9
  have K4 := Lib.hid (show Ext (w3.alloc (.cells #[.bool b5, .slice A5 k5 ca5, .slice B5 l5 cb5] 25)) w4 from k9)
  clear h9 k9 a0 a1 a2 a3 a4 a5 a6 a7 a8 a9 a10 a11 NB3 ND3
  go_upto_region 7 with (fail)
  have F4 := ext_alloc w4 (.cells #[.int .i64 s6, .slice C6 m6 cc6, .slice D6 n6 cd6] 31)
  have F3 := ext_trans K4.out F4
  have F2 := ext_trans KK.out F3
  have TB := Lib.hid (HT.out.mono (ext_trans K1.out (ext_trans HW1.out (ext_trans K2.out (ext_trans HW2.out F2)))))
  have EX := Lib.hid (ext_trans K1.out (ext_trans HW1.out (ext_trans K2.out (ext_trans HW2.out F2))))
  have NX := Lib.hid (NA.out.mono F2)
  have NXR := Lib.hid (NB.out.mono F2)
  have NY := Lib.hid (NC.out.mono F2)
  have NYR := Lib.hid (ND.out.mono F2)
  have NQ := Lib.hid (HE5.out.mono (ext_trans (ext_alloc w3 (.cells #[.bool b5, .slice A5 k5 ca5, .slice B5 l5 cb5] 25)) F3))
  have NQR := Lib.hid (HF.out.mono F4)
  have BQ := Lib.hid (show Bq 20001 (x / y) from (BX.out.div BY.out H0.out).mono (by decide))
  have HS := Lib.hid (show ∀ W : World, Ext (w4.alloc (.cells #[.int .i64 s6, .slice C6 m6 cc6, .slice D6 n6 cd6] 31)) W → W.cell? ⟨w1.heap.size, 0, none⟩ = some (.bool b1) ∧ W.cell? ⟨w1.heap.size, 1, none⟩ = some (.slice A1 k1 ca1) ∧ W.cell? ⟨w1.heap.size, 2, none⟩ = some (.slice B1 l1 cb1) ∧ W.cell? ⟨w1.heap.size + 1, 0, none⟩ = some (.int .i64 s2) ∧ W.cell? ⟨w1.heap.size + 1, 1, none⟩ = some (.slice C2 m2 cc2) ∧ W.cell? ⟨w1.heap.size + 1, 2, none⟩ = some (.slice D2 n2 cd2) ∧ W.cell? ⟨w2.heap.size, 0, none⟩ = some (.bool b3) ∧ W.cell? ⟨w2.heap.size, 1, none⟩ = some (.slice A3 k3 ca3) ∧ W.cell? ⟨w2.heap.size, 2, none⟩ = some (.slice B3 l3 cb3) ∧ W.cell? ⟨w2.heap.size + 1, 0, none⟩ = some (.int .i64 s4) ∧ W.cell? ⟨w2.heap.size + 1, 1, none⟩ = some (.slice C4 m4 cc4) ∧ W.cell? ⟨w2.heap.size + 1, 2, none⟩ = some (.slice D4 n4 cd4) ∧ W.cell? ⟨w3.heap.size, 0, none⟩ = some (.bool b5) ∧ W.cell? ⟨w3.heap.size, 1, none⟩ = some (.slice A5 k5 ca5) ∧ W.cell? ⟨w3.heap.size, 2, none⟩ = some (.slice B5 l5 cb5) ∧ W.cell? ⟨w4.heap.size, 0, none⟩ = some (.int .i64 s6) ∧ W.cell? ⟨w4.heap.size, 1, none⟩ = some (.slice C6 m6 cc6) ∧ W.cell? ⟨w4.heap.size, 2, none⟩ = some (.slice D6 n6 cd6) from fun W h => by
    obtain ⟨c0, c1, c2, c3, c4, c5⟩ := HS1.out W (ext_trans (show Ext ((w1.alloc (.cells #[.bool b1, .slice A1 k1 ca1, .slice B1 l1 cb1] 25)).alloc (.cells #[.int .i64 s2, .slice C2 m2 cc2, .slice D2 n2 cd2] 31)) w2 from K2.out) (ext_trans HW2.out (ext_trans F2 h)))
    obtain ⟨c6, c7, c8, c9, c10, c11⟩ := HS2.out W (ext_trans F2 h)
    obtain ⟨c12, c13, c14, -⟩ := row3_0 (row3 (ext_trans F3 h))
    obtain ⟨c15, c16, c17, -⟩ := rowR_0 (rowR h)
    exact ⟨c0, c1, c2, c3, c4, c5, c6, c7, c8, c9, c10, c11, c12, c13, c14, c15, c16, c17⟩)
  clear F2 F3 F4 K1 K2 K3 K4 KK HW1 HW2 HS1 HS2 HA HB HC HD HE5 HF NA NB NC ND HT
  generalize World.alloc w4 (.cells #[.int .i64 s6, .slice C6 m6 cc6, .slice D6 n6 cd6] _) = WR at *
  generalize w1.heap.size = g1 at *
  generalize w2.heap.size = g2 at *
  generalize w3.heap.size = g3 at *
  generalize w4.heap.size = g4 at *
  obtain ⟨cc, hcc⟩ : ∃ c, cmpQ x y = c := ⟨_, rfl⟩
  have HCC := Lib.hid hcc
  clear hcc
  go_cut [93] (fun r wx => r = .bool false ∧ Hid (Ext WR wx))
  case first =>
    have hS0 := HS.out WR (ext_refl WR)
    have e1 := Lib.hid (ext_drew WR)
    have hx1 := Lib.hid (ext_trans (ext_refl WR) (ext_drew WR))
    go_region_held3 (fun W => W.cell? ⟨g1, 0, none⟩ = some (.bool b1) ∧ W.cell? ⟨g1, 1, none⟩ = some (.slice A1 k1 ca1) ∧ W.cell? ⟨g1, 2, none⟩ = some (.slice B1 l1 cb1) ∧ W.cell? ⟨g1 + 1, 0, none⟩ = some (.int .i64 s2) ∧ W.cell? ⟨g1 + 1, 1, none⟩ = some (.slice C2 m2 cc2) ∧ W.cell? ⟨g1 + 1, 2, none⟩ = some (.slice D2 n2 cd2) ∧ W.cell? ⟨g2, 0, none⟩ = some (.bool b3) ∧ W.cell? ⟨g2, 1, none⟩ = some (.slice A3 k3 ca3) ∧ W.cell? ⟨g2, 2, none⟩ = some (.slice B3 l3 cb3) ∧ W.cell? ⟨g2 + 1, 0, none⟩ = some (.int .i64 s4) ∧ W.cell? ⟨g2 + 1, 1, none⟩ = some (.slice C4 m4 cc4) ∧ W.cell? ⟨g2 + 1, 2, none⟩ = some (.slice D4 n4 cd4) ∧ W.cell? ⟨g3, 0, none⟩ = some (.bool b5) ∧ W.cell? ⟨g3, 1, none⟩ = some (.slice A5 k5 ca5) ∧ W.cell? ⟨g3, 2, none⟩ = some (.slice B5 l5 cb5) ∧ W.cell? ⟨g4, 0, none⟩ = some (.int .i64 s6) ∧ W.cell? ⟨g4, 1, none⟩ = some (.slice C6 m6 cc6) ∧ W.cell? ⟨g4, 2, none⟩ = some (.slice D6 n6 cd6))
      (first
        | exact HS.out _ hx13.out
        | exact HS.out _ hx12.out
        | exact HS.out _ hx11.out
        | exact HS.out _ hx10.out
        | exact HS.out _ hx9.out
        | exact HS.out _ hx8.out
        | exact HS.out _ hx7.out
        | exact HS.out _ hx6.out
        | exact HS.out _ hx5.out
        | exact HS.out _ hx4.out
        | exact HS.out _ hx3.out
        | exact HS.out _ hx2.out
        | exact HS.out _ hx1.out)
      (first
        | (have _q := hx12
           go_at_call 18
           refine (same_c 20001 (by decide) _ _ (x * y) _ (J2.out.mono e12.out) JR2.out ((BX.out.mul BY.out).mono (by decide)) (TB.out.mono hx12.out).2).mono ?_
           clear _q
           rintro e wx12 ⟨rfl, k9⟩
           have e13 := Lib.hid k9
           have hx13 := Lib.hid (ext_trans hx12.out k9)
           clear k9)
        | (have _q := hx11
           go_at_call 30
           refine (mul_n 5000 (by decide) _ _ x y _ (NXR.out.mono hx11.out) (NYR.out.mono hx11.out) BX.out BY.out).mono ?_
           clear _q
           rintro e wx11 ⟨vv, rfl, h9, k9⟩
           obtain ⟨s15, C15, m15, cc15, D15, n15, cd15, rfl, -, -, -⟩ := h9.form
           have JR2 := Lib.hid h9
           clear h9
           have e12 := Lib.hid k9
           have hx12 := Lib.hid (ext_trans hx11.out k9)
           clear k9)
        | (have _q := hx10
           go_at_call 29
           refine (mul_q 5000 (by decide) _ _ x y _ (NX.out.mono hx10.out) (NY.out.mono hx10.out) BX.out BY.out).mono ?_
           clear _q
           rintro e wx10 ⟨vv, rfl, h9, k9⟩
           obtain ⟨b14, A14, k14, ca14, B14, l14, cb14, rfl⟩ := h9.form2
           have J2 := Lib.hid h9
           clear h9
           have e11 := Lib.hid k9
           have hx11 := Lib.hid (ext_trans hx10.out k9)
           clear k9)
        | (have _q := hx9
           go_at_call 18
           refine (same_c 20001 (by decide) _ _ (x - y) _ (J1.out.mono e9.out) JR1.out ((BX.out.sub BY.out).mono (by decide)) (TB.out.mono hx9.out).2).mono ?_
           clear _q
           rintro e wx9 ⟨rfl, k9⟩
           have e10 := Lib.hid k9
           have hx10 := Lib.hid (ext_trans hx9.out k9)
           clear k9)
        | (have _q := hx8
           go_at_call 58
           refine (sub_n 5000 (by decide) _ _ x y _ (NXR.out.mono hx8.out) (NYR.out.mono hx8.out) BX.out BY.out).mono ?_
           clear _q
           rintro e wx8 ⟨vv, rfl, h9, k9⟩
           obtain ⟨s13, C13, m13, cc13, D13, n13, cd13, rfl, -, -, -⟩ := h9.form
           have JR1 := Lib.hid h9
           clear h9
           have e9 := Lib.hid k9
           have hx9 := Lib.hid (ext_trans hx8.out k9)
           clear k9)
        | (have _q := hx7
           go_at_call 51
           refine (sub_q 5000 (by decide) _ _ x y _ (NX.out.mono hx7.out) (NY.out.mono hx7.out) BX.out BY.out).mono ?_
           clear _q
           rintro e wx7 ⟨vv, rfl, h9, k9⟩
           obtain ⟨b12, A12, k12, ca12, B12, l12, cb12, rfl⟩ := h9.form2
           have J1 := Lib.hid h9
           clear h9
           have e8 := Lib.hid k9
           have hx8 := Lib.hid (ext_trans hx7.out k9)
           clear k9)
        | (have _q := hx6
           go_at_call 18
           refine (same_c 20001 (by decide) _ _ (x + y) _ (J0.out.mono e6.out) JR0.out ((BX.out.add BY.out).mono (by decide)) (TB.out.mono hx6.out).2).mono ?_
           clear _q
           rintro e wx6 ⟨rfl, k9⟩
           have e7 := Lib.hid k9
           have hx7 := Lib.hid (ext_trans hx6.out k9)
           clear k9)
        | (have _q := hx5
           go_at_call 57
           refine (add_n 5000 (by decide) _ _ x y _ (NXR.out.mono hx5.out) (NYR.out.mono hx5.out) BX.out BY.out).mono ?_
           clear _q
           rintro e wx5 ⟨vv, rfl, h9, k9⟩
           obtain ⟨s11, C11, m11, cc11, D11, n11, cd11, rfl, -, -, -⟩ := h9.form
           have JR0 := Lib.hid h9
           clear h9
           have e6 := Lib.hid k9
           have hx6 := Lib.hid (ext_trans hx5.out k9)
           clear k9)
        | (have _q := hx4
           go_at_call 50
           refine (add_q 5000 (by decide) _ _ x y _ (NX.out.mono hx4.out) (NY.out.mono hx4.out) BX.out BY.out).mono ?_
           clear _q
           rintro e wx4 ⟨vv, rfl, h9, k9⟩
           obtain ⟨b10, A10, k10, ca10, B10, l10, cb10, rfl⟩ := h9.form2
           have J0 := Lib.hid h9
           clear h9
           have e5 := Lib.hid k9
           have hx5 := Lib.hid (ext_trans hx4.out k9)
           clear k9)
        | (have _q := hx3
           go_at_call 56
           refine (cmp_e 5000 (by decide) _ _ x y cc HCC.out _ (NXR.out.mono hx3.out) (NYR.out.mono hx3.out) BX.out BY.out).mono ?_
           clear _q
           rintro e wx3 ⟨rfl, k9⟩
           have e4 := Lib.hid k9
           have hx4 := Lib.hid (ext_trans hx3.out k9)
           clear k9)
        | (have _q := hx2
           go_at_call 45
           refine (cmp_pe 5000 (by decide) _ _ x y cc HCC.out _ (NX.out.mono hx2.out) (NY.out.mono hx2.out) BX.out BY.out).mono ?_
           clear _q
           rintro e wx2 ⟨rfl, k9⟩
           have e3 := Lib.hid k9
           have hx3 := Lib.hid (ext_trans hx2.out k9)
           clear k9)
        | (have _q := hx1
           go_at_call 18
           refine (same_c 20001 (by decide) _ _ (x / y) _ (NQ.out.mono hx1.out) (NQR.out.mono hx1.out) (BQ.out) (TB.out.mono hx1.out).2).mono ?_
           clear _q
           rintro e wx1 ⟨rfl, k9⟩
           have e2 := Lib.hid k9
           have hx2 := Lib.hid (ext_trans hx1.out k9)
           clear k9))
    all_goals
      go_wp2_with fail
      go_meet
      exact ⟨rfl, hx13⟩
  case rest =>
   obtain ⟨rfl, HX7⟩ := hcut
   rename World => WS
   go_upto_region 9 with (fail)
   go_cut [127] (fun r wx => r = .bool false ∧ Hid (Ext WR wx))
   case first =>
    have hS0 := HS.out WS HX7.out
    have e1 := Lib.hid (ext_drew WS)
    have hx1 := Lib.hid (ext_trans HX7.out (ext_drew WS))
    go_region_held3 (fun W => W.cell? ⟨g1, 0, none⟩ = some (.bool b1) ∧ W.cell? ⟨g1, 1, none⟩ = some (.slice A1 k1 ca1) ∧ W.cell? ⟨g1, 2, none⟩ = some (.slice B1 l1 cb1) ∧ W.cell? ⟨g1 + 1, 0, none⟩ = some (.int .i64 s2) ∧ W.cell? ⟨g1 + 1, 1, none⟩ = some (.slice C2 m2 cc2) ∧ W.cell? ⟨g1 + 1, 2, none⟩ = some (.slice D2 n2 cd2) ∧ W.cell? ⟨g2, 0, none⟩ = some (.bool b3) ∧ W.cell? ⟨g2, 1, none⟩ = some (.slice A3 k3 ca3) ∧ W.cell? ⟨g2, 2, none⟩ = some (.slice B3 l3 cb3) ∧ W.cell? ⟨g2 + 1, 0, none⟩ = some (.int .i64 s4) ∧ W.cell? ⟨g2 + 1, 1, none⟩ = some (.slice C4 m4 cc4) ∧ W.cell? ⟨g2 + 1, 2, none⟩ = some (.slice D4 n4 cd4) ∧ W.cell? ⟨g3, 0, none⟩ = some (.bool b5) ∧ W.cell? ⟨g3, 1, none⟩ = some (.slice A5 k5 ca5) ∧ W.cell? ⟨g3, 2, none⟩ = some (.slice B5 l5 cb5) ∧ W.cell? ⟨g4, 0, none⟩ = some (.int .i64 s6) ∧ W.cell? ⟨g4, 1, none⟩ = some (.slice C6 m6 cc6) ∧ W.cell? ⟨g4, 2, none⟩ = some (.slice D6 n6 cd6))
      (first
        | exact HS.out _ hx13.out
        | exact HS.out _ hx12.out
        | exact HS.out _ hx11.out
        | exact HS.out _ hx10.out
        | exact HS.out _ hx9.out
        | exact HS.out _ hx8.out
        | exact HS.out _ hx7.out
        | exact HS.out _ hx6.out
        | exact HS.out _ hx5.out
        | exact HS.out _ hx4.out
        | exact HS.out _ hx3.out
        | exact HS.out _ hx2.out
        | exact HS.out _ hx1.out)
      (first
        | (have _q := hx12
           go_at_call 18
           refine (same_c 20001 (by decide) _ _ (absQ x) _ (J3.out.mono e12.out) JR3.out ((Bq.abs BX.out).mono (by decide)) (TB.out.mono hx12.out).2).mono ?_
           clear _q
           rintro e wx12 ⟨rfl, k9⟩
           have e13 := Lib.hid k9
           have hx13 := Lib.hid (ext_trans hx12.out k9)
           clear k9)
        | (have _q := hx11
           go_at_call 65
           refine (abs_n _ x _ (NXR.out.mono hx11.out)).mono ?_
           clear _q
           rintro e wx11 ⟨vv, rfl, h9, k9⟩
           obtain ⟨s17, C17, m17, cc17, D17, n17, cd17, rfl, -, -, -⟩ := h9.form
           have JR3 := Lib.hid h9
           clear h9
           have e12 := Lib.hid k9
           have hx12 := Lib.hid (ext_trans hx11.out k9)
           clear k9)
        | (have _q := hx10
           go_at_call 64
           refine (abs_q _ x _ (NX.out.mono hx10.out)).mono ?_
           clear _q
           rintro e wx10 ⟨vv, rfl, h9, k9⟩
           obtain ⟨b16, A16, k16, ca16, B16, l16, cb16, rfl⟩ := h9.form2
           have J3 := Lib.hid h9
           clear h9
           have e11 := Lib.hid k9
           have hx11 := Lib.hid (ext_trans hx10.out k9)
           clear k9)
        | (have _q := hx9
           go_at_call 18
           refine (same_c 20001 (by decide) _ _ (-x) _ (J2.out.mono e9.out) JR2.out (BX.out.neg.mono (by decide)) (TB.out.mono hx9.out).2).mono ?_
           clear _q
           rintro e wx9 ⟨rfl, k9⟩
           have e10 := Lib.hid k9
           have hx10 := Lib.hid (ext_trans hx9.out k9)
           clear k9)
        | (have _q := hx8
           go_at_call 63
           refine (neg_n _ x _ (NXR.out.mono hx8.out)).mono ?_
           clear _q
           rintro e wx8 ⟨vv, rfl, h9, k9⟩
           obtain ⟨s15, C15, m15, cc15, D15, n15, cd15, rfl, -, -, -⟩ := h9.form
           have JR2 := Lib.hid h9
           clear h9
           have e9 := Lib.hid k9
           have hx9 := Lib.hid (ext_trans hx8.out k9)
           clear k9)
        | (have _q := hx7
           go_at_call 47
           refine (neg_q _ x _ (NX.out.mono hx7.out)).mono ?_
           clear _q
           rintro e wx7 ⟨vv, rfl, h9, k9⟩
           obtain ⟨b14, A14, k14, ca14, B14, l14, cb14, rfl⟩ := h9.form2
           have J2 := Lib.hid h9
           clear h9
           have e8 := Lib.hid k9
           have hx8 := Lib.hid (ext_trans hx7.out k9)
           clear k9)
        | (have _q := hx6
           go_at_call 18
           refine (same_c 20001 (by decide) _ _ (maxQ x y) _ (J1.out.mono e6.out) JR1.out ((BX.out.max BY.out).mono (by decide)) (TB.out.mono hx6.out).2).mono ?_
           clear _q
           rintro e wx6 ⟨rfl, k9⟩
           have e7 := Lib.hid k9
           have hx7 := Lib.hid (ext_trans hx6.out k9)
           clear k9)
        | (have _q := hx5
           go_at_call 62
           refine (max_n 5000 (by decide) _ _ x y _ (NXR.out.mono hx5.out) (NYR.out.mono hx5.out) BX.out BY.out).mono ?_
           clear _q
           rintro e wx5 ⟨vv, rfl, h9, k9⟩
           obtain ⟨s13, C13, m13, cc13, D13, n13, cd13, rfl, -, -, -⟩ := h9.form
           have JR1 := Lib.hid h9
           clear h9
           have e6 := Lib.hid k9
           have hx6 := Lib.hid (ext_trans hx5.out k9)
           clear k9)
        | (have _q := hx4
           go_at_call 61
           refine (max_q 5000 (by decide) _ _ x y _ (NX.out.mono hx4.out) (NY.out.mono hx4.out) BX.out BY.out).mono ?_
           clear _q
           rintro e wx4 ⟨vv, rfl, h9, k9⟩
           obtain ⟨b12, A12, k12, ca12, B12, l12, cb12, rfl⟩ := h9.form2
           have J1 := Lib.hid h9
           clear h9
           have e5 := Lib.hid k9
           have hx5 := Lib.hid (ext_trans hx4.out k9)
           clear k9)
        | (have _q := hx3
           go_at_call 18
           refine (same_c 20001 (by decide) _ _ (minQ x y) _ (J0.out.mono e3.out) JR0.out ((BX.out.min BY.out).mono (by decide)) (TB.out.mono hx3.out).2).mono ?_
           clear _q
           rintro e wx3 ⟨rfl, k9⟩
           have e4 := Lib.hid k9
           have hx4 := Lib.hid (ext_trans hx3.out k9)
           clear k9)
        | (have _q := hx2
           go_at_call 60
           refine (min_n 5000 (by decide) _ _ x y _ (NXR.out.mono hx2.out) (NYR.out.mono hx2.out) BX.out BY.out).mono ?_
           clear _q
           rintro e wx2 ⟨vv, rfl, h9, k9⟩
           obtain ⟨s11, C11, m11, cc11, D11, n11, cd11, rfl, -, -, -⟩ := h9.form
           have JR0 := Lib.hid h9
           clear h9
           have e3 := Lib.hid k9
           have hx3 := Lib.hid (ext_trans hx2.out k9)
           clear k9)
        | (have _q := hx1
           go_at_call 59
           refine (min_q 5000 (by decide) _ _ x y _ (NX.out.mono hx1.out) (NY.out.mono hx1.out) BX.out BY.out).mono ?_
           clear _q
           rintro e wx1 ⟨vv, rfl, h9, k9⟩
           obtain ⟨b10, A10, k10, ca10, B10, l10, cb10, rfl⟩ := h9.form2
           have J0 := Lib.hid h9
           clear h9
           have e2 := Lib.hid k9
           have hx2 := Lib.hid (ext_trans hx1.out k9)
           clear k9))
    all_goals
      go_wp2_with fail
      go_meet
      exact ⟨rfl, hx13⟩
   case rest =>
   obtain ⟨rfl, HX9⟩ := hcut
   rename World => WT
   go_upto_region 11 with (fail)
   have hsg : ∃ s, x.num.sign = s := ⟨_, rfl⟩
   obtain ⟨sx, hsx⟩ := hsg
   have HSX := Lib.hid hsx
   clear hsx
   have hS0 := HS.out WT HX9.out
   have e1 := Lib.hid (ext_drew WT)
   have hx1 := Lib.hid (ext_trans HX9.out (ext_drew WT))
   go_region_held3 (fun W => W.cell? ⟨g1, 0, none⟩ = some (.bool b1) ∧ W.cell? ⟨g1, 1, none⟩ = some (.slice A1 k1 ca1) ∧ W.cell? ⟨g1, 2, none⟩ = some (.slice B1 l1 cb1) ∧ W.cell? ⟨g1 + 1, 0, none⟩ = some (.int .i64 s2) ∧ W.cell? ⟨g1 + 1, 1, none⟩ = some (.slice C2 m2 cc2) ∧ W.cell? ⟨g1 + 1, 2, none⟩ = some (.slice D2 n2 cd2) ∧ W.cell? ⟨g2, 0, none⟩ = some (.bool b3) ∧ W.cell? ⟨g2, 1, none⟩ = some (.slice A3 k3 ca3) ∧ W.cell? ⟨g2, 2, none⟩ = some (.slice B3 l3 cb3) ∧ W.cell? ⟨g2 + 1, 0, none⟩ = some (.int .i64 s4) ∧ W.cell? ⟨g2 + 1, 1, none⟩ = some (.slice C4 m4 cc4) ∧ W.cell? ⟨g2 + 1, 2, none⟩ = some (.slice D4 n4 cd4) ∧ W.cell? ⟨g3, 0, none⟩ = some (.bool b5) ∧ W.cell? ⟨g3, 1, none⟩ = some (.slice A5 k5 ca5) ∧ W.cell? ⟨g3, 2, none⟩ = some (.slice B5 l5 cb5) ∧ W.cell? ⟨g4, 0, none⟩ = some (.int .i64 s6) ∧ W.cell? ⟨g4, 1, none⟩ = some (.slice C6 m6 cc6) ∧ W.cell? ⟨g4, 2, none⟩ = some (.slice D6 n6 cd6))
     (first
       | exact HS.out _ hx4.out
       | exact HS.out _ hx3.out
       | exact HS.out _ hx2.out
       | exact HS.out _ hx1.out)
     (first
       | (have _q := hx3
          go_at_call 19
          refine (awake_c _ (TB.out.mono hx3.out)).mono ?_
          clear _q
          rintro e wx3 ⟨rfl, k9⟩
          have e4 := Lib.hid k9
          have hx4 := Lib.hid (ext_trans hx3.out k9)
          clear k9)
       | (have _q := hx2
          go_at_call 66
          refine (sign_n _ x sx HSX.out _ (NXR.out.mono hx2.out)).mono ?_
          clear _q
          rintro e wx2 ⟨rfl, k9⟩
          have e3 := Lib.hid k9
          have hx3 := Lib.hid (ext_trans hx2.out k9)
          clear k9)
       | (have _q := hx1
          go_at_call 52
          refine (sign_q' _ x _ sx HSX.out (NX.out.mono hx1.out)).mono ?_
          clear _q
          rintro e wx1 ⟨rfl, k9⟩
          have e2 := Lib.hid k9
          have hx2 := Lib.hid (ext_trans hx1.out k9)
          clear k9))
   all_goals
     go_wp2_with fail
     go_ret
     exact ⟨by simp, ext_trans EX.out hx4.out⟩
theorem computes_c (u v : List UInt8) (hu : u.length ≤ 9223372036854775807) (hv : v.length ≤ 9223372036854775807) (w : World) (ht : Tab w) :
    Calls Tryz.prog 11 #[.string ⟨u.toArray⟩, .string ⟨v.toArray⟩] w fun e w' => e = .returned (.bool true) ∧ Ext w w' := by
  cases h1 : ((parseS u).1 == 0)
  · exact computes_no1 u v hu hv _ _ rfl rfl _ h1 rfl w ht
  · cases h2 : ((parseS v).1 == 0)
    · exact computes_no2 u v hu hv _ _ rfl rfl h1 h2 w ht
    · by_cases h0 : (parseS v).2 = 0
      · exact computes_zero u v hu hv _ _ rfl rfl h1 h2 h0 w ht
      · exact computes_ok u v hu hv _ _ rfl rfl h1 h2 h0 w ht
end Go.Proofs.YtpgdefgdboijlaaGreatDoor
