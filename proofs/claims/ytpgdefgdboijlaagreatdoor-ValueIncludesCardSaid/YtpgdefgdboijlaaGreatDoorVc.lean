/- The laws' helper: two numbers are equal. Printed by gen_vc.py. -/
import Derived.Test.YtpgdefgdboijlaaGreatDoorUa
namespace Go.Proofs.YtpgdefgdboijlaaGreatDoor
open Go.RowKit
set_option linter.unusedVariables false
/-- what all worlds hold -/
def Tab (w : World) : Prop := Pfx w ∧ Tens w
theorem Tab.mono {w w' : World} (h : Tab w) (k : Ext w w') : Tab w' := ⟨h.1.mono k, h.2.mono k⟩
theorem cmp_q0 (M : Nat) (hM : M ≤ 1099511627776) (vx vy : Value) (x : Rat) (w : World) (hx : Nm w vx x) (hy : Nm w vy x) (bx : Bq M x) :
    Calls Tryz.prog 45 #[vx, vy] w fun e w' => e = .returned (.int .i64 0) ∧ Ext w w' := by
  have h := cmp_q M hM vx vy x x w hx hy bx bx
  rw [(cmpQ_zero x x).2 rfl] at h
  exact h
set_option maxRecDepth 100000 in
set_option maxHeartbeats 8000000 in
theorem equal_yes (M : Nat) (hM : M ≤ 1073741824) (vx vy : Value) (x : Rat) (w : World) (hx : Nm w vx x) (hy : Nm w vy x) (bx : Bq M x) (ht : Tab w) :
    Calls Tryz.prog 46 #[vx, vy] w fun e w' => e = .returned (.bool true) ∧ Ext w w' := by
  obtain ⟨b1, A, k, ca, B, l, cb, rfl⟩ := hx.form2
  obtain ⟨b2, C, m, cc, D, n, cd, rfl⟩ := hy.form2
  have Hx := Lib.hid hx
  have Hy := Lib.hid hy
  have BX := Lib.hid bx
  have HT := Lib.hid ht
  have HM := Lib.hid hM
  have hcz := Lib.hid ((cmpQ_zero x x).2 rfl)
  clear hx hy bx ht hM
  obtain ⟨hS, hw1⟩ := setup2n w (.bool b1) (.slice A k ca) (.slice B l cb) (.bool b2) (.slice C m cc) (.slice D n cd)
  have HS := Lib.hid hS
  have hww := Lib.hid hw1
  clear hS hw1
  go_enter Tryz.func46, Tryz.ntmps46
  go_wp2_with fail
  generalize World.alloc (World.alloc w (.cells #[.bool b1, .slice A k ca, .slice B l cb] _)) (.cells #[.bool b2, .slice C m cc, .slice D n cd] _) = W2 at *
  generalize w.heap.size = g0 at *
  have HW2 := Lib.hid (ext_refl W2)
  have hx0 := Lib.hid (ext_refl W2)
  have hS0 := HS.out _ (ext_trans HW2.out hx0.out)
  have e1 := Lib.hid (ext_drew W2)
  have hx1 := Lib.hid (ext_trans hx0.out e1.out)
  go_region_held3 (fun W => W.cell? ⟨g0, 0, none⟩ = some (.bool b1) ∧ W.cell? ⟨g0, 1, none⟩ = some (.slice A k ca) ∧ W.cell? ⟨g0, 2, none⟩ = some (.slice B l cb) ∧ W.cell? ⟨g0 + 1, 0, none⟩ = some (.bool b2) ∧ W.cell? ⟨g0 + 1, 1, none⟩ = some (.slice C m cc) ∧ W.cell? ⟨g0 + 1, 2, none⟩ = some (.slice D n cd))
    (first
      | exact HS.out _ (ext_trans HW2.out hx6.out)
      | exact HS.out _ (ext_trans HW2.out hx5.out)
      | exact HS.out _ (ext_trans HW2.out hx4.out)
      | exact HS.out _ (ext_trans HW2.out hx3.out)
      | exact HS.out _ (ext_trans HW2.out hx2.out)
      | exact HS.out _ (ext_trans HW2.out hx1.out))
    (first
      | (have _q := hx5
         go_at_call 27
         refine (show_c M HM.out _ x _ (Hy.out.mono (ext_trans hww.out hx5.out)) BX.out (HT.out.1.mono (ext_trans hww.out hx5.out)) (HT.out.2.mono (ext_trans hww.out hx5.out))).mono ?_
         clear _q
         rintro e w5 ⟨rfl, k6⟩
         have e6 := Lib.hid k6
         have hx6 := Lib.hid (ext_trans hx5.out k6)
         clear k6)
      | (have _q := hx4
         go_at_call 27
         refine (show_c M HM.out _ x _ (Hx.out.mono (ext_trans hww.out hx4.out)) BX.out (HT.out.1.mono (ext_trans hww.out hx4.out)) (HT.out.2.mono (ext_trans hww.out hx4.out))).mono ?_
         clear _q
         rintro e w4 ⟨rfl, k5⟩
         have e5 := Lib.hid k5
         have hx5 := Lib.hid (ext_trans hx4.out k5)
         clear k5)
      | (have _q := hx3
         go_at_call 42
         refine (text_c M (Nat.le_trans HM.out (by decide)) _ x _ (Hy.out.mono (ext_trans hww.out hx3.out)) BX.out (HT.out.2.mono (ext_trans hww.out hx3.out))).mono ?_
         clear _q
         rintro e w3 ⟨rfl, k4⟩
         have e4 := Lib.hid k4
         have hx4 := Lib.hid (ext_trans hx3.out k4)
         clear k4)
      | (have _q := hx2
         go_at_call 42
         refine (text_c M (Nat.le_trans HM.out (by decide)) _ x _ (Hx.out.mono (ext_trans hww.out hx2.out)) BX.out (HT.out.2.mono (ext_trans hww.out hx2.out))).mono ?_
         clear _q
         rintro e w2 ⟨rfl, k3⟩
         have e3 := Lib.hid k3
         have hx3 := Lib.hid (ext_trans hx2.out k3)
         clear k3)
      | (have _q := hx1
         go_at_call 45
         refine (cmp_q0 M (Nat.le_trans HM.out (by decide)) _ _ x _ (Hx.out.mono (ext_trans hww.out hx1.out)) (Hy.out.mono (ext_trans hww.out hx1.out)) BX.out).mono ?_
         clear _q
         rintro e w1 ⟨rfl, k2⟩
         have e2 := Lib.hid k2
         have hx2 := Lib.hid (ext_trans hx1.out k2)
         clear k2))
  all_goals
    go_wp2_with fail
    go_ret
    exact ⟨by simp, ext_trans hww.out hx6.out⟩
end Go.Proofs.YtpgdefgdboijlaaGreatDoor
