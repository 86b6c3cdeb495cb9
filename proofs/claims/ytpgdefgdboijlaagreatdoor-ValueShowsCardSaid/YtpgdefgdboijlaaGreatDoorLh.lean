/- The law of showing engineering texts: the walk. Printed by gen_lh.py. -/
import Derived.Test.YtpgdefgdboijlaaGreatDoorRx
import Derived.Test.YtpgdefgdboijlaaGreatDoorPr
import Derived.Test.YtpgdefgdboijlaaGreatDoorVd
import Derived.Deep.DeepCutAuto
import Derived.Deep.RegionHeld3
namespace Go.Proofs.YtpgdefgdboijlaaGreatDoor
open Go.RowKit
set_option linter.unusedVariables false
theorem show_pe (M : Nat) (hM : M ≤ 1073741824) (vx : Value) (x : Rat) (l : List UInt8) (hl : showS x = l) (w : World) (hx : Nm w vx x) (bx : Bq M x) (ht : Tab w) :
    Calls Tryz.prog 27 #[vx] w fun e w' => e = .returned (.string ⟨l.toArray⟩) ∧ Ext w w' := by
  subst hl; exact show_c M hM vx x w hx bx ht.1 ht.2
theorem show_re (M : Nat) (hM : M ≤ 1000000) (vx : Value) (x : Rat) (l : List UInt8) (hl : showS x = l) (w : World) (hx : Nr w vx x) (bx : Bq M x) :
    Calls Tryz.prog 28 #[vx] w fun e w' => e = .returned (.string ⟨l.toArray⟩) ∧ Ext w w' := by
  subst hl; exact show_n M hM vx x w hx bx
set_option maxRecDepth 100000 in
set_option maxHeartbeats 16000000 in
theorem shows_no1 (u v : List UInt8) (hu : u.length ≤ 9223372036854775807) (hv : v.length ≤ 9223372036854775807) (ku kv : Int) (hku : (parseS u).1 = ku) (hkv : (parseS v).1 = kv) (iv : Bool) (hiu : (ku == 0) = false) (hiv : (kv == 0) = iv) (w : World) (ht : Tab w) :
    Calls Tryz.prog 5 #[.string ⟨u.toArray⟩, .string ⟨v.toArray⟩] w fun e w' => e = .returned (.bool true) ∧ Ext w w' := by
  have P0 := Lib.hid (pair_c u hu ku hku)
  have P1 := Lib.hid (pair_c v hv kv hkv)
  have BX := Lib.hid (show Bq 5000 (parseS u).2 from (parse_small u).mono (by decide))
  have BY := Lib.hid (show Bq 5000 (parseS v).2 from (parse_small v).mono (by decide))
  have HT := Lib.hid ht
  unfold PairR at P0 P1
  rw [hiu] at P0
  rw [hiv] at P1
  generalize (parseS u).2 = x at *
  generalize (parseS v).2 = y at *
  clear hu hv hku hkv hiu hiv ht
  go_enter Tryz.func5, Tryz.ntmps5
  go_wp2_with fail
  refine (P0.out _).mono ?_
  rintro e w1 ⟨va, vb, rfl, ha, hb, kk⟩
  obtain ⟨b1, A1, k1, ca1, B1, l1, cb1, rfl⟩ := ha.form2
  obtain ⟨s2, C2, m2, cc2, D2, n2, cd2, rfl, -, -, -⟩ := hb.form
  have HA := Lib.hid ha
  have HB := Lib.hid hb
  have K1 := Lib.hid kk
  obtain ⟨hs1, hw1⟩ := setupM w1 (.bool b1) (.slice A1 k1 ca1) (.slice B1 l1 cb1) (.int .i64 s2) (.slice C2 m2 cc2) (.slice D2 n2 cd2)
  have HS1 := Lib.hid hs1
  have HW1 := Lib.hid hw1
  clear ha hb kk P0 hs1 hw1
  go_wp2_with fail
  refine (P1.out _).mono ?_
  rintro e w2 ⟨va, vb, rfl, ha, hb, kk⟩
  obtain ⟨b3, A3, k3, ca3, B3, l3, cb3, rfl⟩ := ha.form2
  obtain ⟨s4, C4, m4, cc4, D4, n4, cd4, rfl, -, -, -⟩ := hb.form
  have HC := Lib.hid ha
  have HD := Lib.hid hb
  have K2 := Lib.hid kk
  obtain ⟨hs2, hw2⟩ := setupM w2 (.bool b3) (.slice A3 k3 ca3) (.slice B3 l3 cb3) (.int .i64 s4) (.slice C4 m4 cc4) (.slice D4 n4 cd4)
  have HS2 := Lib.hid hs2
  have HW2 := Lib.hid hw2
  clear ha hb kk P1 hs2 hw2
  go_wp2_with fail
  have KE := Lib.hid (show Ext w ((w2.alloc (.cells #[.bool b3, .slice A3 k3 ca3, .slice B3 l3 cb3] 25)).alloc (.cells #[.int .i64 s4, .slice C4 m4 cc4, .slice D4 n4 cd4] 31)) from ext_trans K1.out (ext_trans HW1.out (ext_trans K2.out HW2.out)))
  refine (awake_c _ (HT.out.mono KE.out)).mono ?_
  rintro e w3 ⟨rfl, k3⟩
  go_wp2_with fail
  go_ret
  exact ⟨rfl, ext_trans KE.out k3⟩
set_option maxRecDepth 100000 in
set_option maxHeartbeats 16000000 in
theorem shows_no2 (u v : List UInt8) (hu : u.length ≤ 9223372036854775807) (hv : v.length ≤ 9223372036854775807) (ku kv : Int) (hku : (parseS u).1 = ku) (hkv : (parseS v).1 = kv) (hiu : (ku == 0) = true) (hiv : (kv == 0) = false) (w : World) (ht : Tab w) :
    Calls Tryz.prog 5 #[.string ⟨u.toArray⟩, .string ⟨v.toArray⟩] w fun e w' => e = .returned (.bool true) ∧ Ext w w' := by
  have P0 := Lib.hid (pair_c u hu ku hku)
  have P1 := Lib.hid (pair_c v hv kv hkv)
  have BX := Lib.hid (show Bq 5000 (parseS u).2 from (parse_small u).mono (by decide))
  have BY := Lib.hid (show Bq 5000 (parseS v).2 from (parse_small v).mono (by decide))
  have HT := Lib.hid ht
  unfold PairR at P0 P1
  rw [hiu] at P0
  rw [hiv] at P1
  generalize (parseS u).2 = x at *
  generalize (parseS v).2 = y at *
  clear hu hv hku hkv hiu hiv ht
  go_enter Tryz.func5, Tryz.ntmps5
  go_wp2_with fail
  refine (P0.out _).mono ?_
  rintro e w1 ⟨va, vb, rfl, ha, hb, kk⟩
  obtain ⟨b1, A1, k1, ca1, B1, l1, cb1, rfl⟩ := ha.form2
  obtain ⟨s2, C2, m2, cc2, D2, n2, cd2, rfl, -, -, -⟩ := hb.form
  have HA := Lib.hid ha
  have HB := Lib.hid hb
  have K1 := Lib.hid kk
  obtain ⟨hs1, hw1⟩ := setupM w1 (.bool b1) (.slice A1 k1 ca1) (.slice B1 l1 cb1) (.int .i64 s2) (.slice C2 m2 cc2) (.slice D2 n2 cd2)
  have HS1 := Lib.hid hs1
  have HW1 := Lib.hid hw1
  clear ha hb kk P0 hs1 hw1
  go_wp2_with fail
  refine (P1.out _).mono ?_
  rintro e w2 ⟨va, vb, rfl, ha, hb, kk⟩
  obtain ⟨b3, A3, k3, ca3, B3, l3, cb3, rfl⟩ := ha.form2
  obtain ⟨s4, C4, m4, cc4, D4, n4, cd4, rfl, -, -, -⟩ := hb.form
  have HC := Lib.hid ha
  have HD := Lib.hid hb
  have K2 := Lib.hid kk
  obtain ⟨hs2, hw2⟩ := setupM w2 (.bool b3) (.slice A3 k3 ca3) (.slice B3 l3 cb3) (.int .i64 s4) (.slice C4 m4 cc4) (.slice D4 n4 cd4)
  have HS2 := Lib.hid hs2
  have HW2 := Lib.hid hw2
  clear ha hb kk P1 hs2 hw2
  go_wp2_with fail
  have KE := Lib.hid (show Ext w ((w2.alloc (.cells #[.bool b3, .slice A3 k3 ca3, .slice B3 l3 cb3] 25)).alloc (.cells #[.int .i64 s4, .slice C4 m4 cc4, .slice D4 n4 cd4] 31)) from ext_trans K1.out (ext_trans HW1.out (ext_trans K2.out HW2.out)))
  refine (awake_c _ (HT.out.mono KE.out)).mono ?_
  rintro e w3 ⟨rfl, k3⟩
  go_wp2_with fail
  go_ret
  exact ⟨rfl, ext_trans KE.out k3⟩
set_option maxRecDepth 100000 in
set_option maxHeartbeats 16000000 in
theorem shows_ok (u v : List UInt8) (hu : u.length ≤ 9223372036854775807) (hv : v.length ≤ 9223372036854775807) (ku kv : Int) (hku : (parseS u).1 = ku) (hkv : (parseS v).1 = kv) (hiu : (ku == 0) = true) (hiv : (kv == 0) = true) (w : World) (ht : Tab w) :
    Calls Tryz.prog 5 #[.string ⟨u.toArray⟩, .string ⟨v.toArray⟩] w fun e w' => e = .returned (.bool true) ∧ Ext w w' := by
  have P0 := Lib.hid (pair_c u hu ku hku)
  have P1 := Lib.hid (pair_c v hv kv hkv)
  have BX := Lib.hid (show Bq 5000 (parseS u).2 from (parse_small u).mono (by decide))
  have BY := Lib.hid (show Bq 5000 (parseS v).2 from (parse_small v).mono (by decide))
  have HT := Lib.hid ht
  unfold PairR at P0 P1
  rw [hiu] at P0
  rw [hiv] at P1
  generalize (parseS u).2 = x at *
  generalize (parseS v).2 = y at *
  clear hu hv hku hkv hiu hiv ht
  go_enter Tryz.func5, Tryz.ntmps5
  go_wp2_with fail
  refine (P0.out _).mono ?_
  rintro e w1 ⟨va, vb, rfl, ha, hb, kk⟩
  obtain ⟨b1, A1, k1, ca1, B1, l1, cb1, rfl⟩ := ha.form2
  obtain ⟨s2, C2, m2, cc2, D2, n2, cd2, rfl, -, -, -⟩ := hb.form
  have HA := Lib.hid ha
  have HB := Lib.hid hb
  have K1 := Lib.hid kk
  obtain ⟨hs1, hw1⟩ := setupM w1 (.bool b1) (.slice A1 k1 ca1) (.slice B1 l1 cb1) (.int .i64 s2) (.slice C2 m2 cc2) (.slice D2 n2 cd2)
  have HS1 := Lib.hid hs1
  have HW1 := Lib.hid hw1
  clear ha hb kk P0 hs1 hw1
  go_wp2_with fail
  refine (P1.out _).mono ?_
  rintro e w2 ⟨va, vb, rfl, ha, hb, kk⟩
  obtain ⟨b3, A3, k3, ca3, B3, l3, cb3, rfl⟩ := ha.form2
  obtain ⟨s4, C4, m4, cc4, D4, n4, cd4, rfl, -, -, -⟩ := hb.form
  have HC := Lib.hid ha
  have HD := Lib.hid hb
  have K2 := Lib.hid kk
  obtain ⟨hs2, hw2⟩ := setupM w2 (.bool b3) (.slice A3 k3 ca3) (.slice B3 l3 cb3) (.int .i64 s4) (.slice C4 m4 cc4) (.slice D4 n4 cd4)
  have HS2 := Lib.hid hs2
  have HW2 := Lib.hid hw2
  clear ha hb kk P1 hs2 hw2
  go_upto_region 5 with (fail)
  have EX := Lib.hid (show Ext w ((w2.alloc (.cells #[.bool b3, .slice A3 k3 ca3, .slice B3 l3 cb3] 25)).alloc (.cells #[.int .i64 s4, .slice C4 m4 cc4, .slice D4 n4 cd4] 31)) from ext_trans K1.out (ext_trans HW1.out (ext_trans K2.out HW2.out)))
  have TB := Lib.hid (HT.out.mono EX.out)
  have NX := Lib.hid (HA.out.mono (ext_trans HW1.out (ext_trans K2.out HW2.out)))
  have NXR := Lib.hid (HB.out.mono (ext_trans HW1.out (ext_trans K2.out HW2.out)))
  have NY := Lib.hid (HC.out.mono HW2.out)
  have NYR := Lib.hid (HD.out.mono HW2.out)
  have HS := Lib.hid (show ∀ W : World, Ext ((w2.alloc (.cells #[.bool b3, .slice A3 k3 ca3, .slice B3 l3 cb3] 25)).alloc (.cells #[.int .i64 s4, .slice C4 m4 cc4, .slice D4 n4 cd4] 31)) W → W.cell? ⟨w1.heap.size, 0, none⟩ = some (.bool b1) ∧ W.cell? ⟨w1.heap.size, 1, none⟩ = some (.slice A1 k1 ca1) ∧ W.cell? ⟨w1.heap.size, 2, none⟩ = some (.slice B1 l1 cb1) ∧ W.cell? ⟨w1.heap.size + 1, 0, none⟩ = some (.int .i64 s2) ∧ W.cell? ⟨w1.heap.size + 1, 1, none⟩ = some (.slice C2 m2 cc2) ∧ W.cell? ⟨w1.heap.size + 1, 2, none⟩ = some (.slice D2 n2 cd2) ∧ W.cell? ⟨w2.heap.size, 0, none⟩ = some (.bool b3) ∧ W.cell? ⟨w2.heap.size, 1, none⟩ = some (.slice A3 k3 ca3) ∧ W.cell? ⟨w2.heap.size, 2, none⟩ = some (.slice B3 l3 cb3) ∧ W.cell? ⟨w2.heap.size + 1, 0, none⟩ = some (.int .i64 s4) ∧ W.cell? ⟨w2.heap.size + 1, 1, none⟩ = some (.slice C4 m4 cc4) ∧ W.cell? ⟨w2.heap.size + 1, 2, none⟩ = some (.slice D4 n4 cd4) from fun W h => by
    obtain ⟨c0, c1, c2, c3, c4, c5⟩ := HS1.out W (ext_trans (show Ext ((w1.alloc (.cells #[.bool b1, .slice A1 k1 ca1, .slice B1 l1 cb1] 25)).alloc (.cells #[.int .i64 s2, .slice C2 m2 cc2, .slice D2 n2 cd2] 31)) w2 from K2.out) (ext_trans HW2.out h))
    obtain ⟨c6, c7, c8, c9, c10, c11⟩ := HS2.out W h
    exact ⟨c0, c1, c2, c3, c4, c5, c6, c7, c8, c9, c10, c11⟩)
  clear K1 K2 HW1 HW2 HS1 HS2 HA HB HC HD HT
  generalize World.alloc (World.alloc w2 (.cells #[.bool b3, .slice A3 k3 ca3, .slice B3 l3 cb3] _)) (.cells #[.int .i64 s4, .slice C4 m4 cc4, .slice D4 n4 cd4] _) = WR at *
  generalize w1.heap.size = g1 at *
  generalize w2.heap.size = g2 at *
  obtain ⟨sx, hsx⟩ : ∃ l, showS x = l := ⟨_, rfl⟩
  obtain ⟨sp, hsp⟩ : ∃ l, showS (x * y) = l := ⟨_, rfl⟩
  have HSX := Lib.hid hsx
  have HSP := Lib.hid hsp
  have BP := Lib.hid (show Bq 20001 (x * y) from (BX.out.mul BY.out).mono (by decide))
  have BXX := Lib.hid (show Bq 20001 x from BX.out.mono (by decide))
  clear hsx hsp
  have hS0 := HS.out WR (ext_refl _)
  have e1 := Lib.hid (ext_drew WR)
  have hx1 := Lib.hid (ext_drew WR)
  go_region_held3 (fun W => W.cell? ⟨g1, 0, none⟩ = some (.bool b1) ∧ W.cell? ⟨g1, 1, none⟩ = some (.slice A1 k1 ca1) ∧ W.cell? ⟨g1, 2, none⟩ = some (.slice B1 l1 cb1) ∧ W.cell? ⟨g1 + 1, 0, none⟩ = some (.int .i64 s2) ∧ W.cell? ⟨g1 + 1, 1, none⟩ = some (.slice C2 m2 cc2) ∧ W.cell? ⟨g1 + 1, 2, none⟩ = some (.slice D2 n2 cd2) ∧ W.cell? ⟨g2, 0, none⟩ = some (.bool b3) ∧ W.cell? ⟨g2, 1, none⟩ = some (.slice A3 k3 ca3) ∧ W.cell? ⟨g2, 2, none⟩ = some (.slice B3 l3 cb3) ∧ W.cell? ⟨g2 + 1, 0, none⟩ = some (.int .i64 s4) ∧ W.cell? ⟨g2 + 1, 1, none⟩ = some (.slice C4 m4 cc4) ∧ W.cell? ⟨g2 + 1, 2, none⟩ = some (.slice D4 n4 cd4))
    (first
      | exact HS.out _ hx8.out
      | exact HS.out _ hx7.out
      | exact HS.out _ hx6.out
      | exact HS.out _ hx5.out
      | exact HS.out _ hx4.out
      | exact HS.out _ hx3.out
      | exact HS.out _ hx2.out
      | exact HS.out _ hx1.out)
    (first
      | (have _q := hx7
         go_at_call 19
         refine (awake_c _ (TB.out.mono hx7.out)).mono ?_
         clear _q
         rintro e wx7 ⟨rfl, k9⟩
         have e8 := Lib.hid k9
         have hx8 := Lib.hid (ext_trans hx7.out k9)
         clear k9)
      | (have _q := hx6
         go_at_call 28
         refine (show_re 20001 (by decide) _ (x * y) sp HSP.out _ JR0.out BP.out).mono ?_
         clear _q
         rintro e wx6 ⟨rfl, k9⟩
         have e7 := Lib.hid k9
         have hx7 := Lib.hid (ext_trans hx6.out k9)
         clear k9)
      | (have _q := hx5
         go_at_call 30
         refine (mul_n 5000 (by decide) _ _ x y _ (NXR.out.mono hx5.out) (NYR.out.mono hx5.out) BX.out BY.out).mono ?_
         clear _q
         rintro e wx5 ⟨vv, rfl, h9, k9⟩
         obtain ⟨s11, C11, m11, cc11, D11, n11, cd11, rfl, -, -, -⟩ := h9.form
         have JR0 := Lib.hid h9
         clear h9
         have e6 := Lib.hid k9
         have hx6 := Lib.hid (ext_trans hx5.out k9)
         clear k9)
      | (have _q := hx4
         go_at_call 27
         refine (show_pe 20001 (by decide) _ (x * y) sp HSP.out _ J0.out BP.out (TB.out.mono hx4.out)).mono ?_
         clear _q
         rintro e wx4 ⟨rfl, k9⟩
         have e5 := Lib.hid k9
         have hx5 := Lib.hid (ext_trans hx4.out k9)
         clear k9)
      | (have _q := hx3
         go_at_call 29
         refine (mul_q 5000 (by decide) _ _ x y _ (NX.out.mono hx3.out) (NY.out.mono hx3.out) BX.out BY.out).mono ?_
         clear _q
         rintro e wx3 ⟨vv, rfl, h9, k9⟩
         obtain ⟨b10, A10, k10, ca10, B10, l10, cb10, rfl⟩ := h9.form2
         have J0 := Lib.hid h9
         clear h9
         have e4 := Lib.hid k9
         have hx4 := Lib.hid (ext_trans hx3.out k9)
         clear k9)
      | (have _q := hx2
         go_at_call 28
         refine (show_re 20001 (by decide) _ x sx HSX.out _ (NXR.out.mono hx2.out) BXX.out).mono ?_
         clear _q
         rintro e wx2 ⟨rfl, k9⟩
         have e3 := Lib.hid k9
         have hx3 := Lib.hid (ext_trans hx2.out k9)
         clear k9)
      | (have _q := hx1
         go_at_call 27
         refine (show_pe 20001 (by decide) _ x sx HSX.out _ (NX.out.mono hx1.out) BXX.out (TB.out.mono hx1.out)).mono ?_
         clear _q
         rintro e wx1 ⟨rfl, k9⟩
         have e2 := Lib.hid k9
         have hx2 := Lib.hid (ext_trans hx1.out k9)
         clear k9))
  all_goals
    go_wp2_with fail
    go_ret
    exact ⟨by simp, ext_trans EX.out hx8.out⟩
theorem shows_c (u v : List UInt8) (hu : u.length ≤ 9223372036854775807) (hv : v.length ≤ 9223372036854775807) (w : World) (ht : Tab w) :
    Calls Tryz.prog 5 #[.string ⟨u.toArray⟩, .string ⟨v.toArray⟩] w fun e w' => e = .returned (.bool true) ∧ Ext w w' := by
  cases h1 : ((parseS u).1 == 0)
  · exact shows_no1 u v hu hv _ _ rfl rfl _ h1 rfl w ht
  · cases h2 : ((parseS v).1 == 0)
    · exact shows_no2 u v hu hv _ _ rfl rfl h1 h2 w ht
    · exact shows_ok u v hu hv _ _ rfl rfl h1 h2 w ht
end Go.Proofs.YtpgdefgdboijlaaGreatDoor
