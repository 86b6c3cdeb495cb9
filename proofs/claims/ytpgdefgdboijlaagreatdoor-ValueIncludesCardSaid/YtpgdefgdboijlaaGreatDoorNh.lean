/- Numbers: rounding. Printed by gen_nh.py. -/
import Derived.Test.YtpgdefgdboijlaaGreatDoorNg
namespace Go.Proofs.YtpgdefgdboijlaaGreatDoor
open Go.RowKit
set_option linter.unusedVariables false

theorem up_c (va : Value) (n k : Nat) (w : World) (ha : Wd w va n) (sa : Sm n) (hk : k ≤ 70368744177664) :
    Calls Tryz.prog 171 #[va, .int .i64 k] w fun e w' => ∃ v, e = .returned v ∧ Wd w' v (n * 2 ^ k) ∧ Ext w w' := by
  refine (up_r va n k w ha sa hk).mono ?_
  rintro e w' ⟨⟨r, rfl, h1, h2, h3, h4⟩, h5⟩
  exact ⟨_, rfl, by rw [← h4]; exact cut_w h2 h3.cl (by omega), h5⟩
/-- the number times a power of two -/
def shQ (x : Rat) (k : Int) : Rat := if k < 0 then rat (decide (x.num < 0)) x.num.natAbs (x.den * 2 ^ k.natAbs) else rat (decide (x.num < 0)) (x.num.natAbs * 2 ^ k.natAbs) x.den
theorem lt_shift {n B k : Nat} (h : n < 2 ^ B) : n * 2 ^ k < 2 ^ (B + k) := by
  rw [Nat.pow_add]; exact Nat.mul_lt_mul_of_pos_right h (Nat.pow_pos (by decide))
theorem Bq.sh {B : Nat} {x : Rat} {k : Int} (h : Bq B x) : Bq (B + k.natAbs) (shQ x k) := by
  unfold shQ
  have hp : 0 < x.den := x.den_pos
  split
  · exact bq_rat (lt_mono h.1 (by omega)) (lt_shift h.2) (Nat.ne_of_gt (Nat.mul_pos hp (Nat.pow_pos (by decide))))
  · exact bq_rat (lt_shift h.1) (lt_mono h.2 (by omega)) (Nat.ne_of_gt hp)
set_option maxRecDepth 100000 in
set_option maxHeartbeats 4000000 in
theorem shifted_up (M : Nat) (hM : M ≤ 1099511627776) (j : Nat) (hj : j ≤ 1099511627776) (vx : Value) (x : Rat) (w : World) (hx : Nm w vx x) (bx : Bq M x) :
    Calls Tryz.prog 136 #[vx, .int .i64 j] w fun e w' => ∃ v, e = .returned v ∧ Nm w' v (shQ x j) ∧ Ext w w' := by
  have S1 := Lib.hid (sm_of_lt bx.1 (by omega))
  have S2 := Lib.hid (sm_of_lt bx.2 (by omega))
  have S3 := Lib.hid (sm_of_lt (lt_shift (k := j) bx.1) (by omega))
  have D0 := Lib.hid x.den_pos
  have HJ := Lib.hid hj
  have q1 : (0 : Int) ≤ (j : Int) := by omega
  have q2 : ¬ (j : Int) < 0 := by omega
  clear hj bx hM
  obtain ⟨A, k, ca, B, l, cb, rfl, hxn, hxd, hkx, hlx⟩ := hx.form
  have Hx := Lib.hid hx
  have Hxn := Lib.hid hxn
  have Hkx := Lib.hid hkx
  have Hlx := Lib.hid hlx
  clear hx hxn hxd hkx hlx
  generalize hbx : decide (x.num < 0) = b1 at *
  have Hbx := Lib.hid hbx
  clear hbx
  obtain ⟨hS, hZ, hw1, hw2, hsz, hsz1⟩ := setup1 w (.bool b1) (.slice A k ca) (.slice B l cb)
  have HS := Lib.hid hS
  have HZ := Lib.hid hZ
  have HW1 := Lib.hid hw1
  have HW2 := Lib.hid hw2
  have Hsz1 := Lib.hid hsz1
  clear hS hZ hw1 hw2 hsz hsz1
  go_enter Tryz.func136, Tryz.ntmps136
  go_wp2_with fail
  generalize World.alloc (World.alloc w (.cells #[.bool b1, .slice A k ca, .slice B l cb] _)) _ = W2 at *
  generalize World.alloc w (.cells #[.bool b1, .slice A k ca, .slice B l cb] _) = W1 at *
  generalize hg0 : w.heap.size = g0 at *
  have Hsz := Lib.hid (show w.heap.size ≤ g0 + 1 by omega)
  clear hg0
  have hww := Lib.hid (ext_trans HW1.out HW2.out)
  have hx0 := Lib.hid (ext_refl W2)
  have hS0 := HS.out _ (ext_trans HW2.out hx0.out)
  have e1 := Lib.hid (ext_drew W2)
  have hx1 := Lib.hid (ext_trans hx0.out e1.out)
  go_region_held3 (fun W => W.cell? ⟨g0, 0, none⟩ = some (.bool b1) ∧ W.cell? ⟨g0, 1, none⟩ = some (.slice A k ca) ∧ W.cell? ⟨g0, 2, none⟩ = some (.slice B l cb))
    (first
      | exact HS.out _ (ext_put3 (ext_trans HW2.out hx4.out) Hsz1.out _ _ _)
      | exact HS.out _ (ext_trans HW2.out hx4.out)
      | exact HS.out _ (ext_trans HW2.out hx3.out)
      | exact HS.out _ (ext_trans HW2.out hx2.out)
      | exact HS.out _ (ext_trans HW2.out hx1.out))
    (first
      | (have _q := hx3
         go_at_call 103
         refine (reduced_c _ _ _ _ _ _ (H2.out.mono e3.out) H3.out S3.out S2.out D0.out).mono ?_
         clear _q
         rintro e w3 ⟨vv, rfl, h4, k4⟩
         obtain ⟨b3, P3, p3, c3, Q3, q3, d3, rfl⟩ := h4.form2
         have H4 := Lib.hid h4
         clear h4
         have e4 := Lib.hid k4
         have hx4 := Lib.hid (ext_trans hx3.out k4)
         clear k4
         have hz := HZ.out _ hx4.out
         obtain ⟨z0, z1, z2, f0, f1, f2⟩ := row3_0 hz
         have Hz := Lib.hid hz
         clear hz)
      | (have _q := hx2
         go_at_call 115
         refine (under_c _ _ _ (Hx.out.mono (ext_trans hww.out hx2.out))).mono ?_
         clear _q
         rintro e w2 ⟨vv, rfl, h3, k3⟩
         obtain ⟨P2, p2, c2, rfl⟩ := h3.form'
         have H3 := Lib.hid h3
         clear h3
         have e3 := Lib.hid k3
         have hx3 := Lib.hid (ext_trans hx2.out k3)
         clear k3)
      | (have _q := hx1
         go_at_call 171
         refine (up_c _ _ _ _ (Hxn.out.mono (ext_trans hww.out hx1.out)) S1.out (Nat.le_trans HJ.out (by decide))).mono ?_
         clear _q
         rintro e w1 ⟨vv, rfl, h2, k2⟩
         obtain ⟨P1, p1, c1, rfl⟩ := h2.form'
         have H2 := Lib.hid h2
         clear h2
         have e2 := Lib.hid k2
         have hx2 := Lib.hid (ext_trans hx1.out k2)
         clear k2))
  go_wp2_with fail
  refine bodyPost_ret (v := .agg #[.bool b3, .slice P3 p3 c3, .slice Q3 q3 d3]) (by simp [results, Tryz.f136]; go_simp) rfl ?_
  refine ⟨_, rfl, ?_, ext_put3 (ext_trans hww.out hx4.out) Hsz.out _ _ _⟩
  have hr : rat b1 (x.num.natAbs * 2 ^ j) x.den = shQ x (j : Int) := by
    unfold shQ
    rw [if_neg (by omega), Hbx.out]; rfl
  rw [← hr]
  exact H4.out.put3 Hz.out
set_option maxRecDepth 100000 in
set_option maxHeartbeats 4000000 in
theorem shifted_down (M : Nat) (hM : M ≤ 1099511627776) (j : Nat) (h0 : 0 < j) (hj : j ≤ 1099511627776) (vx : Value) (x : Rat) (w : World) (hx : Nm w vx x) (bx : Bq M x) :
    Calls Tryz.prog 136 #[vx, .int .i64 (-(j : Int))] w fun e w' => ∃ v, e = .returned v ∧ Nm w' v (shQ x (-(j : Int))) ∧ Ext w w' := by
  have S1 := Lib.hid (sm_of_lt bx.1 (by omega))
  have S2 := Lib.hid (sm_of_lt bx.2 (by omega))
  have S3 := Lib.hid (sm_of_lt (lt_shift (k := j) bx.2) (by omega))
  have D0 := Lib.hid (Nat.mul_pos x.den_pos (Nat.pow_pos (n := j) (show 0 < 2 by decide)))
  have HJ := Lib.hid hj
  have HP := Lib.hid h0
  have q2 : -(j : Int) < 0 := by omega
  have q3 : decide (-(j : Int) < 0) = true := by rw [decide_eq_true_eq]; omega
  have q4 : IntKind.i64.wrap (j : Int) = (j : Int) := IntWalk.i64_in _ (by omega)
  have q5 : IntKind.i64.wrap (- -(j : Int)) = (j : Int) := IntWalk.i64_in _ (by omega) |>.trans (by omega)
  clear hj bx hM h0
  obtain ⟨A, k, ca, B, l, cb, rfl, hxn, hxd, hkx, hlx⟩ := hx.form
  have Hx := Lib.hid hx
  have Hxn := Lib.hid hxn
  have Hkx := Lib.hid hkx
  have Hlx := Lib.hid hlx
  clear hx hxn hxd hkx hlx
  generalize hbx : decide (x.num < 0) = b1 at *
  have Hbx := Lib.hid hbx
  clear hbx
  obtain ⟨hS, hZ, hw1, hw2, hsz, hsz1⟩ := setup1 w (.bool b1) (.slice A k ca) (.slice B l cb)
  have HS := Lib.hid hS
  have HZ := Lib.hid hZ
  have HW1 := Lib.hid hw1
  have HW2 := Lib.hid hw2
  have Hsz1 := Lib.hid hsz1
  clear hS hZ hw1 hw2 hsz hsz1
  go_enter Tryz.func136, Tryz.ntmps136
  go_wp2_with fail
  generalize World.alloc (World.alloc w (.cells #[.bool b1, .slice A k ca, .slice B l cb] _)) _ = W2 at *
  generalize World.alloc w (.cells #[.bool b1, .slice A k ca, .slice B l cb] _) = W1 at *
  generalize hg0 : w.heap.size = g0 at *
  have Hsz := Lib.hid (show w.heap.size ≤ g0 + 1 by omega)
  clear hg0
  have hww := Lib.hid (ext_trans HW1.out HW2.out)
  have hx0 := Lib.hid (ext_refl W2)
  have hS0 := HS.out _ (ext_trans HW2.out hx0.out)
  have e1 := Lib.hid (ext_drew W2)
  have hx1 := Lib.hid (ext_trans hx0.out e1.out)
  go_region_held3 (fun W => W.cell? ⟨g0, 0, none⟩ = some (.bool b1) ∧ W.cell? ⟨g0, 1, none⟩ = some (.slice A k ca) ∧ W.cell? ⟨g0, 2, none⟩ = some (.slice B l cb))
    (first
      | exact HS.out _ (ext_put3 (ext_trans HW2.out hx4.out) Hsz1.out _ _ _)
      | exact HS.out _ (ext_trans HW2.out hx4.out)
      | exact HS.out _ (ext_trans HW2.out hx3.out)
      | exact HS.out _ (ext_trans HW2.out hx2.out)
      | exact HS.out _ (ext_trans HW2.out hx1.out))
    (first
      | (have _q := hx3
         go_at_call 103
         refine (reduced_c _ _ _ _ _ _ (Hxn.out.mono (ext_trans hww.out hx3.out)) H3.out S1.out S3.out D0.out).mono ?_
         clear _q
         rintro e w3 ⟨vv, rfl, h4, k4⟩
         obtain ⟨b3, P3, p3, c3, Q3, q3, d3, rfl⟩ := h4.form2
         have H4 := Lib.hid h4
         clear h4
         have e4 := Lib.hid k4
         have hx4 := Lib.hid (ext_trans hx3.out k4)
         clear k4
         have hz := HZ.out _ hx4.out
         obtain ⟨z0, z1, z2, f0, f1, f2⟩ := row3_0 hz
         have Hz := Lib.hid hz
         clear hz)
      | (have _q := hx2
         go_at_call 171
         refine (up_c _ _ _ _ H2.out S2.out (Nat.le_trans HJ.out (by decide))).mono ?_
         clear _q
         rintro e w2 ⟨vv, rfl, h3, k3⟩
         obtain ⟨P2, p2, c2, rfl⟩ := h3.form'
         have H3 := Lib.hid h3
         clear h3
         have e3 := Lib.hid k3
         have hx3 := Lib.hid (ext_trans hx2.out k3)
         clear k3)
      | (have _q := hx1
         go_at_call 115
         refine (under_c _ _ _ (Hx.out.mono (ext_trans hww.out hx1.out))).mono ?_
         clear _q
         rintro e w1 ⟨vv, rfl, h2, k2⟩
         obtain ⟨P1, p1, c1, rfl⟩ := h2.form'
         have H2 := Lib.hid h2
         clear h2
         have e2 := Lib.hid k2
         have hx2 := Lib.hid (ext_trans hx1.out k2)
         clear k2))
  go_wp2_with fail
  refine bodyPost_ret (v := .agg #[.bool b3, .slice P3 p3 c3, .slice Q3 q3 d3]) (by simp [results, Tryz.f136]; go_simp) rfl ?_
  refine ⟨_, rfl, ?_, ext_put3 (ext_trans hww.out hx4.out) Hsz.out _ _ _⟩
  have hr : rat b1 x.num.natAbs (x.den * 2 ^ j) = shQ x (-(j : Int)) := by
    unfold shQ
    rw [if_pos (by have := HP.out; omega), Hbx.out, Int.natAbs_neg]; rfl
  rw [← hr]
  exact H4.out.put3 Hz.out
theorem shifted_q (M : Nat) (hM : M ≤ 1099511627776) (z : Int) (hz : z.natAbs ≤ 1099511627776) (vx : Value) (x : Rat) (w : World) (hx : Nm w vx x) (bx : Bq M x) :
    Calls Tryz.prog 136 #[vx, .int .i64 z] w fun e w' => ∃ v, e = .returned v ∧ Nm w' v (shQ x z) ∧ Ext w w' := by
  rcases (show z < 0 ∨ 0 ≤ z by omega) with h | h
  · obtain ⟨k, rfl⟩ : ∃ k : Nat, z = -(k : Int) := ⟨z.natAbs, by omega⟩
    exact shifted_down M hM k (by omega) (by omega) vx x w hx bx
  · obtain ⟨k, rfl⟩ : ∃ k : Nat, z = (k : Int) := ⟨z.toNat, by omega⟩
    exact shifted_up M hM k (by omega) vx x w hx bx
end Go.Proofs.YtpgdefgdboijlaaGreatDoor
