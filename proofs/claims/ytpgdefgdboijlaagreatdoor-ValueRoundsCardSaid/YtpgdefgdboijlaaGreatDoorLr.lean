/- The law of rounding: the walk. Printed by gen_lr.py. -/
import Derived.Test.YtpgdefgdboijlaaGreatDoorPr
import Derived.Test.YtpgdefgdboijlaaGreatDoorRu
import Derived.Test.YtpgdefgdboijlaaGreatDoorVd
import Derived.Deep.DeepCutAuto
import Derived.Deep.RegionHeld3
namespace Go.Proofs.YtpgdefgdboijlaaGreatDoor
open Go.RowKit
set_option linter.unusedVariables false
set_option maxRecDepth 100000 in
set_option maxHeartbeats 16000000 in
theorem rounds_no (u : List UInt8) (hu : u.length ≤ 9223372036854775807) (bits : Int) (ku : Int) (hku : (parseS u).1 = ku) (hiu : (ku == 0) = false) (w : World) (ht : Tab w) :
    Calls Tryz.prog 6 #[.string ⟨u.toArray⟩, .int .i64 bits] w fun e w' => e = .returned (.bool true) ∧ Ext w w' := by
  have P0 := Lib.hid (pair_c u hu ku hku)
  have BX := Lib.hid (show Bq 5000 (parseS u).2 from (parse_small u).mono (by decide))
  have HT := Lib.hid ht
  unfold PairR at P0
  rw [hiu] at P0
  generalize (parseS u).2 = x at *
  clear hu hku hiu ht
  go_enter Tryz.func6, Tryz.ntmps6
  go_wp2_with fail
  refine (P0.out _).mono ?_
  rintro e w1 ⟨va, vb, rfl, ha, hb, kk⟩
  obtain ⟨b1, A1, k1, ca1, B1, l1, cb1, rfl⟩ := ha.form2
  obtain ⟨s2, C2, m2, cc2, D2, n2, cd2, rfl, -, -, -⟩ := hb.form
  have HA := Lib.hid ha
  have HB := Lib.hid hb
  have K1 := Lib.hid kk
  obtain ⟨hs1, hw1⟩ := setupM w1 (.bool b1) (.slice A1 k1 ca1) (.slice B1 l1 cb1) (.int .i64 s2) (.slice C2 m2 cc2) (.slice D2 n2 cd2)
  have HS := Lib.hid hs1
  have HW1 := Lib.hid hw1
  clear ha hb kk P0 hs1 hw1
  go_wp2_with fail
  have KE := Lib.hid (show Ext w ((w1.alloc (.cells #[.bool b1, .slice A1 k1 ca1, .slice B1 l1 cb1] 25)).alloc (.cells #[.int .i64 s2, .slice C2 m2 cc2, .slice D2 n2 cd2] 31)) from ext_trans K1.out HW1.out)
  refine (awake_c _ (HT.out.mono KE.out)).mono ?_
  rintro e w3 ⟨rfl, k3⟩
  go_wp2_with fail
  go_ret
  exact ⟨rfl, ext_trans KE.out k3⟩
set_option maxRecDepth 100000 in
set_option maxHeartbeats 16000000 in
theorem rounds_ok (u : List UInt8) (hu : u.length ≤ 9223372036854775807) (bits : Int) (ku : Int) (hku : (parseS u).1 = ku) (hiu : (ku == 0) = true) (w : World) (ht : Tab w) :
    Calls Tryz.prog 6 #[.string ⟨u.toArray⟩, .int .i64 bits] w fun e w' => e = .returned (.bool true) ∧ Ext w w' := by
  have P0 := Lib.hid (pair_c u hu ku hku)
  have BX := Lib.hid (show Bq 5000 (parseS u).2 from (parse_small u).mono (by decide))
  have HT := Lib.hid ht
  unfold PairR at P0
  rw [hiu] at P0
  generalize (parseS u).2 = x at *
  clear hu hku hiu ht
  go_enter Tryz.func6, Tryz.ntmps6
  go_wp2_with fail
  refine (P0.out _).mono ?_
  rintro e w1 ⟨va, vb, rfl, ha, hb, kk⟩
  obtain ⟨b1, A1, k1, ca1, B1, l1, cb1, rfl⟩ := ha.form2
  obtain ⟨s2, C2, m2, cc2, D2, n2, cd2, rfl, -, -, -⟩ := hb.form
  have HA := Lib.hid ha
  have HB := Lib.hid hb
  have K1 := Lib.hid kk
  obtain ⟨hs1, hw1⟩ := setupM w1 (.bool b1) (.slice A1 k1 ca1) (.slice B1 l1 cb1) (.int .i64 s2) (.slice C2 m2 cc2) (.slice D2 n2 cd2)
  have HS := Lib.hid hs1
  have HW1 := Lib.hid hw1
  clear ha hb kk P0 hs1 hw1
  go_upto_region 4 with (fail)
  have EX := Lib.hid (show Ext w ((w1.alloc (.cells #[.bool b1, .slice A1 k1 ca1, .slice B1 l1 cb1] 25)).alloc (.cells #[.int .i64 s2, .slice C2 m2 cc2, .slice D2 n2 cd2] 31)) from ext_trans K1.out HW1.out)
  have TB := Lib.hid (HT.out.mono EX.out)
  have NX := Lib.hid (HA.out.mono HW1.out)
  have NXR := Lib.hid (HB.out.mono HW1.out)
  clear K1 HW1 HA HB HT
  generalize World.alloc (World.alloc w1 (.cells #[.bool b1, .slice A1 k1 ca1, .slice B1 l1 cb1] _)) (.cells #[.int .i64 s2, .slice C2 m2 cc2, .slice D2 n2 cd2] _) = WR at *
  generalize w1.heap.size = g1 at *
  have hS0 := HS.out WR (ext_refl _)
  have e1 := Lib.hid (ext_drew WR)
  have hx1 := Lib.hid (ext_drew WR)
  go_region_held3 (fun W => W.cell? ⟨g1, 0, none⟩ = some (.bool b1) ∧ W.cell? ⟨g1, 1, none⟩ = some (.slice A1 k1 ca1) ∧ W.cell? ⟨g1, 2, none⟩ = some (.slice B1 l1 cb1) ∧ W.cell? ⟨g1 + 1, 0, none⟩ = some (.int .i64 s2) ∧ W.cell? ⟨g1 + 1, 1, none⟩ = some (.slice C2 m2 cc2) ∧ W.cell? ⟨g1 + 1, 2, none⟩ = some (.slice D2 n2 cd2))
    (first
      | exact HS.out _ hx14.out
      | exact HS.out _ hx13.out
      | exact HS.out _ hx12.out
      | exact HS.out _ hx11.out
      | exact HS.out _ hx10.out
      | exact HS.out _ hx9.out
      | exact HS.out _ hx8.out
      | exact HS.out _ hx7.out
      | exact HS.out _ hx6.out
      | exact HS.out _ hx5.out
      | exact HS.out _ hx4.out
      | exact HS.out _ hx3.out
      | exact HS.out _ hx2.out
      | exact HS.out _ hx1.out)
    (first
      | (have _q := hx13
         go_at_call 19
         refine (awake_c _ (TB.out.mono hx13.out)).mono ?_
         clear _q
         rintro e wx13 ⟨rfl, k9⟩
         have e14 := Lib.hid k9
         have hx14 := Lib.hid (ext_trans hx13.out k9)
         clear k9)
      | (have _q := hx12
         go_at_call 18
         refine (same_c 30001 (by decide) _ _ (wholeQ x (!decide (x.num < 0))) _ (J3.out.mono e12.out) JR3.out ((Bq.wh BX.out).mono (by decide)) (TB.out.mono hx12.out).2).mono ?_
         clear _q
         rintro e wx12 ⟨rfl, k9⟩
         have e13 := Lib.hid k9
         have hx13 := Lib.hid (ext_trans hx12.out k9)
         clear k9)
      | (have _q := hx11
         go_at_call 38
         refine (ceil_n 5000 (by decide) _ x _ (NXR.out.mono hx11.out) BX.out).mono ?_
         clear _q
         rintro e wx11 ⟨vv, rfl, h9, k9⟩
         obtain ⟨s17, C17, m17, cc17, D17, n17, cd17, rfl, -, -, -⟩ := h9.form
         have JR3 := Lib.hid h9
         clear h9
         have e12 := Lib.hid k9
         have hx12 := Lib.hid (ext_trans hx11.out k9)
         clear k9)
      | (have _q := hx10
         go_at_call 37
         refine (ceil_q 5000 (by decide) _ x _ (NX.out.mono hx10.out) BX.out).mono ?_
         clear _q
         rintro e wx10 ⟨vv, rfl, h9, k9⟩
         obtain ⟨b16, A16, k16, ca16, B16, l16, cb16, rfl⟩ := h9.form2
         have J3 := Lib.hid h9
         clear h9
         have e11 := Lib.hid k9
         have hx11 := Lib.hid (ext_trans hx10.out k9)
         clear k9)
      | (have _q := hx9
         go_at_call 18
         refine (same_c 30001 (by decide) _ _ (wholeQ x (decide (x.num < 0))) _ (J2.out.mono e9.out) JR2.out ((Bq.wh BX.out).mono (by decide)) (TB.out.mono hx9.out).2).mono ?_
         clear _q
         rintro e wx9 ⟨rfl, k9⟩
         have e10 := Lib.hid k9
         have hx10 := Lib.hid (ext_trans hx9.out k9)
         clear k9)
      | (have _q := hx8
         go_at_call 36
         refine (floor_n 5000 (by decide) _ x _ (NXR.out.mono hx8.out) BX.out).mono ?_
         clear _q
         rintro e wx8 ⟨vv, rfl, h9, k9⟩
         obtain ⟨s15, C15, m15, cc15, D15, n15, cd15, rfl, -, -, -⟩ := h9.form
         have JR2 := Lib.hid h9
         clear h9
         have e9 := Lib.hid k9
         have hx9 := Lib.hid (ext_trans hx8.out k9)
         clear k9)
      | (have _q := hx7
         go_at_call 35
         refine (floor_q 5000 (by decide) _ x _ (NX.out.mono hx7.out) BX.out).mono ?_
         clear _q
         rintro e wx7 ⟨vv, rfl, h9, k9⟩
         obtain ⟨b14, A14, k14, ca14, B14, l14, cb14, rfl⟩ := h9.form2
         have J2 := Lib.hid h9
         clear h9
         have e8 := Lib.hid k9
         have hx8 := Lib.hid (ext_trans hx7.out k9)
         clear k9)
      | (have _q := hx6
         go_at_call 18
         refine (same_c 30001 (by decide) _ _ (roundQ x bits (!decide (x.num < 0))) _ (J1.out.mono e6.out) JR1.out ((Bq.round BX.out (by decide)).mono (by decide)) (TB.out.mono hx6.out).2).mono ?_
         clear _q
         rintro e wx6 ⟨rfl, k9⟩
         have e7 := Lib.hid k9
         have hx7 := Lib.hid (ext_trans hx6.out k9)
         clear k9)
      | (have _q := hx5
         go_at_call 34
         refine (up_n 5000 (by decide) bits _ x _ (NXR.out.mono hx5.out) BX.out).mono ?_
         clear _q
         rintro e wx5 ⟨vv, rfl, h9, k9⟩
         obtain ⟨s13, C13, m13, cc13, D13, n13, cd13, rfl, -, -, -⟩ := h9.form
         have JR1 := Lib.hid h9
         clear h9
         have e6 := Lib.hid k9
         have hx6 := Lib.hid (ext_trans hx5.out k9)
         clear k9)
      | (have _q := hx4
         go_at_call 33
         refine (up_q 5000 (by decide) bits _ x _ (NX.out.mono hx4.out) BX.out).mono ?_
         clear _q
         rintro e wx4 ⟨vv, rfl, h9, k9⟩
         obtain ⟨b12, A12, k12, ca12, B12, l12, cb12, rfl⟩ := h9.form2
         have J1 := Lib.hid h9
         clear h9
         have e5 := Lib.hid k9
         have hx5 := Lib.hid (ext_trans hx4.out k9)
         clear k9)
      | (have _q := hx3
         go_at_call 18
         refine (same_c 30001 (by decide) _ _ (roundQ x bits (decide (x.num < 0))) _ (J0.out.mono e3.out) JR0.out ((Bq.round BX.out (by decide)).mono (by decide)) (TB.out.mono hx3.out).2).mono ?_
         clear _q
         rintro e wx3 ⟨rfl, k9⟩
         have e4 := Lib.hid k9
         have hx4 := Lib.hid (ext_trans hx3.out k9)
         clear k9)
      | (have _q := hx2
         go_at_call 32
         refine (down_n 5000 (by decide) bits _ x _ (NXR.out.mono hx2.out) BX.out).mono ?_
         clear _q
         rintro e wx2 ⟨vv, rfl, h9, k9⟩
         obtain ⟨s11, C11, m11, cc11, D11, n11, cd11, rfl, -, -, -⟩ := h9.form
         have JR0 := Lib.hid h9
         clear h9
         have e3 := Lib.hid k9
         have hx3 := Lib.hid (ext_trans hx2.out k9)
         clear k9)
      | (have _q := hx1
         go_at_call 31
         refine (down_q 5000 (by decide) bits _ x _ (NX.out.mono hx1.out) BX.out).mono ?_
         clear _q
         rintro e wx1 ⟨vv, rfl, h9, k9⟩
         obtain ⟨b10, A10, k10, ca10, B10, l10, cb10, rfl⟩ := h9.form2
         have J0 := Lib.hid h9
         clear h9
         have e2 := Lib.hid k9
         have hx2 := Lib.hid (ext_trans hx1.out k9)
         clear k9))
  all_goals
    go_wp2_with fail
    go_ret
    exact ⟨by simp, ext_trans EX.out hx14.out⟩
theorem rounds_c (u : List UInt8) (hu : u.length ≤ 9223372036854775807) (bits : Int) (w : World) (ht : Tab w) :
    Calls Tryz.prog 6 #[.string ⟨u.toArray⟩, .int .i64 bits] w fun e w' => e = .returned (.bool true) ∧ Ext w w' := by
  cases h1 : ((parseS u).1 == 0)
  · exact rounds_no u hu bits _ rfl h1 w ht
  · exact rounds_ok u hu bits _ rfl h1 w ht
end Go.Proofs.YtpgdefgdboijlaaGreatDoor
