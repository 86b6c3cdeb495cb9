/- Numbers: the product. -/
import Derived.Test.YtpgdefgdboijlaaGreatDoorNb
import Derived.Test.YtpgdefgdboijlaaGreatDoorN0
import Derived.Deep.RegionHeld3
namespace Go.Proofs.YtpgdefgdboijlaaGreatDoor
open Go.RowKit
set_option linter.unusedVariables false

/-- the place of a result, before it is written -/
def zrow : Obj := .cells #[.bool false, .slice none 0 0, .slice none 0 0] 25
theorem setup2 (w : World) (x0 x1 x2 y0 y1 y2 : Value) :
    (∀ W, Ext ((w.alloc (.cells #[x0, x1, x2] 25)).alloc (.cells #[y0, y1, y2] 25)) W → W.cell? ⟨w.heap.size, 0, none⟩ = some x0 ∧ W.cell? ⟨w.heap.size, 1, none⟩ = some x1 ∧ W.cell? ⟨w.heap.size, 2, none⟩ = some x2 ∧
      W.cell? ⟨w.heap.size + 1, 0, none⟩ = some y0 ∧ W.cell? ⟨w.heap.size + 1, 1, none⟩ = some y1 ∧ W.cell? ⟨w.heap.size + 1, 2, none⟩ = some y2) ∧
    (∀ W, Ext (((w.alloc (.cells #[x0, x1, x2] 25)).alloc (.cells #[y0, y1, y2] 25)).alloc (.cells #[.bool false, .slice none 0 0, .slice none 0 0] 25)) W → W.heap[w.heap.size + 1 + 1]? = some (.cells #[.bool false, .slice none 0 0, .slice none 0 0] 25 (0, 0))) ∧
    Ext w ((w.alloc (.cells #[x0, x1, x2] 25)).alloc (.cells #[y0, y1, y2] 25)) ∧
    Ext ((w.alloc (.cells #[x0, x1, x2] 25)).alloc (.cells #[y0, y1, y2] 25)) (((w.alloc (.cells #[x0, x1, x2] 25)).alloc (.cells #[y0, y1, y2] 25)).alloc (.cells #[.bool false, .slice none 0 0, .slice none 0 0] 25)) ∧ w.heap.size ≤ w.heap.size + 1 + 1 ∧
    ((w.alloc (.cells #[x0, x1, x2] 25)).alloc (.cells #[y0, y1, y2] 25)).heap.size ≤ w.heap.size + 1 + 1 := by
  have z0 : (w.alloc (.cells #[x0, x1, x2] 25)).heap.size = w.heap.size + 1 := by simp
  have z1 : ((w.alloc (.cells #[x0, x1, x2] 25)).alloc (.cells #[y0, y1, y2] 25)).heap.size = w.heap.size + 1 + 1 := by simp
  have e0 : Ext w (w.alloc (.cells #[x0, x1, x2] 25)) := ext_alloc _ _
  generalize hw0 : w.alloc (.cells #[x0, x1, x2] 25) = w0 at *
  have e1 : Ext w0 (w0.alloc (.cells #[y0, y1, y2] 25)) := ext_alloc _ _
  refine ⟨fun W h => ?_, fun W h => ?_, ext_trans e0 e1, ext_alloc _ _, by omega, Nat.le_of_eq z1⟩
  · have r0 := row3 (hw0 ▸ (ext_trans e1 h) : Ext (w.alloc (.cells #[x0, x1, x2] 25)) W)
    have r1 := row3 h
    rw [z0] at r1
    obtain ⟨a, b, c, -⟩ := row3_0 r0
    obtain ⟨a', b', c', -⟩ := row3_0 r1
    exact ⟨a, b, c, a', b', c'⟩
  · have r2 := row3 h
    rw [z1] at r2
    exact r2
theorem Nm.put3 {W : World} {s : Bool} {A B : Option Addr} {k c l d g : Nat} {q : Rat} (h : Nm W (.agg #[.bool s, .slice A k c, .slice B l d]) q)
    (hg : W.heap[g]? = some (.cells #[.bool false, .slice none 0 0, .slice none 0 0] 25 (0, 0))) :
    Nm (((W.setCell ⟨g, 0, none⟩ (.bool s)).setCell ⟨g, 1, none⟩ (.slice A k c)).setCell ⟨g, 2, none⟩ (.slice B l d)) (.agg #[.bool s, .slice A k c, .slice B l d]) q := by
  obtain ⟨vn, vd, e, h1, h2⟩ := h
  exact ⟨vn, vd, e, h1.put3 hg _ _ _, h2.put3 hg _ _ _⟩
set_option maxRecDepth 100000 in
set_option maxHeartbeats 2000000 in
theorem mul_q (M : Nat) (hM : M ≤ 1099511627776) (vx vy : Value) (x y : Rat) (w : World) (hx : Nm w vx x) (hy : Nm w vy y) (bx : Bq M x) (by_ : Bq M y) :
    Calls Tryz.prog 29 #[vx, vy] w fun e w' => ∃ v, e = .returned v ∧ Nm w' v (x * y) ∧ Ext w w' := by
  obtain ⟨A, k, ca, B, l, cb, rfl, hxn, hxd, -, -⟩ := hx.form
  obtain ⟨C, m, cc, D, n, cd, rfl, hyn, hyd, -, -⟩ := hy.form
  obtain ⟨s1, s2, -, -, -, -⟩ := Bq.sm2 bx by_ hM
  obtain ⟨s3, s4⟩ := bx.sm hM
  obtain ⟨s5, s6⟩ := by_.sm hM
  have D0 := Lib.hid (Nat.mul_pos x.den_pos y.den_pos)
  have Hx := Lib.hid hx
  have Hy := Lib.hid hy
  have Hxn := Lib.hid hxn
  have Hyn := Lib.hid hyn
  have S1 := Lib.hid s1
  have S2 := Lib.hid s2
  have S3 := Lib.hid s3
  have S4 := Lib.hid s4
  have S5 := Lib.hid s5
  have S6 := Lib.hid s6
  obtain ⟨hS, hZ, hw1, hw2, hsz, hsz1⟩ := setup2 w (.bool (decide (x.num < 0))) (.slice A k ca) (.slice B l cb) (.bool (decide (y.num < 0))) (.slice C m cc) (.slice D n cd)
  have HS := Lib.hid hS
  have HZ := Lib.hid hZ
  have HW1 := Lib.hid hw1
  have HW2 := Lib.hid hw2
  have Hsz := Lib.hid hsz
  have Hsz1 := Lib.hid hsz1
  clear hx hy hxn hxd hyn hyd s1 s2 s3 s4 s5 s6 hS hZ hw1 hw2 hsz hsz1 bx by_ hM
  generalize hbx : decide (x.num < 0) = b1 at *
  generalize hby : decide (y.num < 0) = b2 at *
  have Hbx := Lib.hid hbx
  have Hby := Lib.hid hby
  clear hbx hby
  go_enter Tryz.func29, Tryz.ntmps29
  go_wp2_with fail
  generalize World.alloc (World.alloc (World.alloc w (.cells #[.bool b1, .slice A k ca, .slice B l cb] _)) (.cells #[.bool b2, .slice C m cc, .slice D n cd] _)) _ = W2 at *
  generalize World.alloc (World.alloc w (.cells #[.bool b1, .slice A k ca, .slice B l cb] _)) (.cells #[.bool b2, .slice C m cc, .slice D n cd] _) = W1 at *
  generalize hg0 : w.heap.size = g0 at *
  have Hsz := Lib.hid (show w.heap.size ≤ g0 + 1 + 1 by omega)
  clear hg0
  have hx0 := Lib.hid (ext_drew W2)
  have hww := Lib.hid (ext_trans HW1.out HW2.out)
  have hS0 := HS.out W2 HW2.out
  go_region_held3 (fun W => W.cell? ⟨g0, 0, none⟩ = some (.bool b1) ∧ W.cell? ⟨g0, 1, none⟩ = some (.slice A k ca) ∧ W.cell? ⟨g0, 2, none⟩ = some (.slice B l cb) ∧ W.cell? ⟨g0 + 1, 0, none⟩ = some (.bool b2) ∧ W.cell? ⟨g0 + 1, 1, none⟩ = some (.slice C m cc) ∧ W.cell? ⟨g0 + 1, 2, none⟩ = some (.slice D n cd))
    (first
      | exact HS.out _ (ext_put3 (ext_trans HW2.out hx5.out) Hsz1.out _ _ _)
      | exact HS.out _ (ext_trans HW2.out hx5.out)
      | exact HS.out _ (ext_trans HW2.out hx4.out)
      | exact HS.out _ (ext_trans HW2.out hx3.out)
      | exact HS.out _ (ext_trans HW2.out hx2.out)
      | exact HS.out _ (ext_trans HW2.out hx1.out)
      | exact HS.out _ (ext_trans HW2.out hx0.out))
    (first
      | (go_at_call_of 116 A
         refine (mul_c _ _ _ _ _ (Hxn.out.mono (ext_trans hww.out hx0.out)) (Hyn.out.mono (ext_trans hww.out hx0.out)) S3.out S5.out).mono ?_
         rintro e w3 ⟨v3, rfl, h3, k3⟩
         obtain ⟨P1, p1, c1, rfl⟩ := h3.form'
         have hx1 := Lib.hid (ext_trans hx0.out k3)
         have H3 := Lib.hid h3
         clear h3 k3)
      | (go_at_call_of 115 B
         refine (under_c _ _ _ (Hx.out.mono (ext_trans hww.out hx1.out))).mono ?_
         rintro e w4 ⟨v4, rfl, h4, k4⟩
         obtain ⟨P2, p2, c2, rfl⟩ := h4.form'
         have hx2 := Lib.hid (ext_trans hx1.out k4)
         have H3' := Lib.hid (H3.out.mono k4)
         have H4 := Lib.hid h4
         clear h4 k4)
      | (go_at_call_of 115 D
         refine (under_c _ _ _ (Hy.out.mono (ext_trans hww.out hx2.out))).mono ?_
         rintro e w5 ⟨v5, rfl, h5, k5⟩
         obtain ⟨P3, p3, c3, rfl⟩ := h5.form'
         have hx3 := Lib.hid (ext_trans hx2.out k5)
         have H3'' := Lib.hid (H3'.out.mono k5)
         have H4' := Lib.hid (H4.out.mono k5)
         have H5 := Lib.hid h5
         clear h5 k5)
      | (go_at_call_of 116 P2
         refine (mul_c _ _ _ _ _ H4'.out H5.out S4.out S6.out).mono ?_
         rintro e w6 ⟨v6, rfl, h6, k6⟩
         obtain ⟨P4, p4, c4, rfl⟩ := h6.form'
         have hx4 := Lib.hid (ext_trans hx3.out k6)
         have H3t := Lib.hid (H3''.out.mono k6)
         have H6 := Lib.hid h6
         clear h6 k6)
      | (go_at_call 103
         refine (reduced_c _ _ _ _ _ _ H3t.out H6.out S1.out S2.out D0.out).mono ?_
         rintro e w7 ⟨v7, rfl, h7, k7⟩
         obtain ⟨P5, p5, c5, P6, p6, c6, h7e, -⟩ := h7.form
         subst h7e
         have hx5 := Lib.hid (ext_trans hx4.out k7)
         have H7 := Lib.hid h7
         have hz := HZ.out _ hx5.out
         obtain ⟨z0, z1, z2, f0, f1, f2⟩ := row3_0 hz
         have Hz := Lib.hid hz
         clear h7 k7 hz))
  go_wp2_with fail
  refine bodyPost_ret (v := .agg #[.bool (decide ((rat (!(b1 == b2)) (x.num.natAbs * y.num.natAbs) (x.den * y.den)).num < 0)), .slice P5 p5 c5, .slice P6 p6 c6]) (by simp [results, Tryz.f29]; go_simp) rfl ?_
  refine ⟨_, rfl, ?_, ext_put3 (ext_trans hww.out hx5.out) Hsz.out _ _ _⟩
  have hr := mul_parts x y
  rw [Hbx.out, Hby.out] at hr
  have hr' : rat (!(b1 == b2)) (x.num.natAbs * y.num.natAbs) (x.den * y.den) = x * y := hr
  have h8 := H7.out.put3 Hz.out
  rw [hr'] at h8 ⊢
  exact h8
end Go.Proofs.YtpgdefgdboijlaaGreatDoor
