/- Numbers: rounding to significant bits. Printed by gen_nj.py. -/
import Derived.Test.YtpgdefgdboijlaaGreatDoorNi
namespace Go.Proofs.YtpgdefgdboijlaaGreatDoor
open Go.RowKit
set_option linter.unusedVariables false

/-- rounded to significant bits -/
def stepQ (x : Rat) (bits : Int) : Int := logQ x - min (max bits 1) 2000 + 1
def roundQ (x : Rat) (bits : Int) (away : Bool) : Rat := if x = 0 then 0 else shQ (wholeQ (shQ x (-(stepQ x bits))) away) (stepQ x bits)
theorem stepQ_bound {M : Nat} {x : Rat} (h : Bq M x) (bits : Int) : (stepQ x bits).natAbs ≤ M + 2001 := by
  have := logQ_bound h
  unfold stepQ
  omega
theorem Bq.round {M : Nat} {x : Rat} {bits : Int} {away : Bool} (h : Bq M x) (hM : 0 < M) : Bq (3 * M + 4003) (roundQ x bits away) := by
  unfold roundQ
  split
  · exact bq_zero _ (by omega)
  · have hs := stepQ_bound h bits
    have h1 : Bq (M + (M + 2001)) (shQ x (-(stepQ x bits))) := (Bq.sh h).mono (by rw [Int.natAbs_neg]; omega)
    have h2 := (Bq.wh h1 : Bq _ (wholeQ (shQ x (-(stepQ x bits))) away))
    exact (Bq.sh h2).mono (by omega)
set_option maxRecDepth 100000 in
set_option maxHeartbeats 4000000 in
theorem rounded_zero (bits : Int) (away : Bool) (vx : Value) (w : World) (hx : Nm w vx 0) :
    Calls Tryz.prog 126 #[vx, .int .i64 bits, .bool away] w fun e w' => ∃ v, e = .returned v ∧ Nm w' v 0 ∧ Ext w w' := by
  obtain ⟨A, k, ca, B, l, cb, rfl, -, -, hkx, -⟩ := hx.form
  obtain rfl : k = 0 := hkx.2 rfl
  clear hkx
  have Hx := Lib.hid hx
  clear hx
  generalize decide ((0 : Rat).num < 0) = b1 at *
  go_enter Tryz.func126, Tryz.ntmps126
  go_wp2_with fail
  refine bodyPost_ret (v := .agg #[.bool b1, .slice A 0 ca, .slice B l cb]) (by simp [results, Tryz.f126]; go_simp) rfl ?_
  exact ⟨_, rfl, Hx.out.mono (ext2 _ _ _), ext2 _ _ _⟩
set_option maxRecDepth 100000 in
set_option maxHeartbeats 4000000 in
theorem rounded_main (M : Nat) (hM : M ≤ 1073741824) (bits : Int) (away : Bool) (vx : Value) (x : Rat) (w : World) (hx : Nm w vx x) (bx : Bq M x) (h0 : x ≠ 0) :
    Calls Tryz.prog 126 #[vx, .int .i64 bits, .bool away] w fun e w' => ∃ v, e = .returned v ∧ Nm w' v (shQ (wholeQ (shQ x (-(stepQ x bits))) away) (stepQ x bits)) ∧ Ext w w' := by
  have BX := Lib.hid bx
  have hL := logQ_bound bx
  have hs := stepQ_bound bx bits
  obtain ⟨L, hLe⟩ : ∃ L, logQ x = L := ⟨_, rfl⟩
  obtain ⟨s, hse⟩ : ∃ s, stepQ x bits = s := ⟨_, rfl⟩
  have hse' : L - min (max bits 1) 2000 + 1 = s := by rw [← hLe, ← hse]; rfl
  rw [hse] at hs ⊢
  rw [hLe] at hL
  have HL := Lib.hid hLe
  have HSE := Lib.hid hse'
  have HSB := Lib.hid hs
  have B1 := Lib.hid (show Bq (M + (M + 2001)) (shQ x (-s)) from (Bq.sh bx).mono (by rw [Int.natAbs_neg]; omega))
  have u1 : IntKind.i64.wrap (L - min (max bits 1) 2000) = L - min (max bits 1) 2000 := IntWalk.i64_in _ (by omega)
  have u2 : IntKind.i64.wrap (L - min (max bits 1) 2000 + 1) = s := (IntWalk.i64_in _ (by omega)).trans hse'
  have u3 : IntKind.i64.wrap (-s) = -s := IntWalk.i64_in _ (by omega)
  have U1 := Lib.hid u1
  have U2 := Lib.hid u2
  have U3 := Lib.hid u3
  have HM := Lib.hid hM
  clear u1 u2 u3 hLe hse hse' hs hL bx hM
  have H0 := Lib.hid h0
  clear h0
  obtain ⟨A, k, ca, B, l, cb, rfl, hxn, hxd, hkx, hlx⟩ := hx.form
  have Hx := Lib.hid hx
  have Hxn := Lib.hid hxn
  have Hkx := Lib.hid hkx
  have Hlx := Lib.hid hlx
  clear hx hxn hxd hkx hlx
  generalize hbx : decide (x.num < 0) = b1 at *
  have Hbx := Lib.hid hbx
  clear hbx
  have t1 : ((k : Int) == 0) = false := by
    have h : ¬ k = 0 := fun h => H0.out (Hkx.out.1 h)
    simp; omega
  obtain ⟨hS, hZ, hw1, hw2, hsz, hsz1⟩ := setup1 w (.bool b1) (.slice A k ca) (.slice B l cb)
  have HS := Lib.hid hS
  have HZ := Lib.hid hZ
  have HW1 := Lib.hid hw1
  have HW2 := Lib.hid hw2
  have Hsz1 := Lib.hid hsz1
  clear hS hZ hw1 hw2 hsz hsz1
  go_enter Tryz.func126, Tryz.ntmps126
  go_wp2_with fail
  generalize World.alloc (World.alloc w (.cells #[.bool b1, .slice A k ca, .slice B l cb] _)) _ = W2 at *
  generalize World.alloc w (.cells #[.bool b1, .slice A k ca, .slice B l cb] _) = W1 at *
  generalize hg0 : w.heap.size = g0 at *
  have Hsz := Lib.hid (show w.heap.size ≤ g0 + 1 by omega)
  clear hg0
  have hww := Lib.hid (ext_trans HW1.out HW2.out)
  have hx0 := Lib.hid (ext_refl W2)
  have hcs := HS.out W2 HW2.out
  refine (log_q M (Nat.le_trans HM.out (by decide)) _ _ _ (Hx.out.mono (ext_trans hww.out hx0.out)) BX.out).mono ?_
  rintro e w1 ⟨rfl, kk⟩
  have e1 := Lib.hid kk
  have hx1 := Lib.hid (ext_trans hx0.out kk)
  clear kk
  obtain ⟨r0, r1, r2⟩ := HS.out _ (ext_trans HW2.out hx1.out)
  rw [HL.out]
  have u1 := U1.out
  have u2 := U2.out
  have u3 := U3.out
  go_wp2_with fail
  refine (shifted_q M (Nat.le_trans HM.out (by decide)) (-s) (by have h := HSB.out; have h2 := HM.out; rw [Int.natAbs_neg]; omega) _ _ _ (Hx.out.mono (ext_trans hww.out hx1.out)) BX.out).mono ?_
  rintro e w2 ⟨v_, rfl, hh, kk⟩
  obtain ⟨b2, P2, p2, c2, Q2, q2, d2, rfl⟩ := hh.form2
  have G2 := Lib.hid hh
  clear hh
  have e2 := Lib.hid kk
  have hx2 := Lib.hid (ext_trans hx1.out kk)
  clear kk
  go_wp2_with fail
  refine (whole_q (M + (M + 2001)) (by have h2 := HM.out; omega) away _ _ _ G2.out B1.out).mono ?_
  rintro e w3 ⟨v_, rfl, hh, kk⟩
  obtain ⟨b3, P3, p3, c3, Q3, q3, d3, rfl⟩ := hh.form2
  have G3 := Lib.hid hh
  clear hh
  have e3 := Lib.hid kk
  have hx3 := Lib.hid (ext_trans hx2.out kk)
  clear kk
  go_wp2_with fail
  refine (shifted_q (M + (M + 2001) + 1) (by have h2 := HM.out; omega) s (by have h := HSB.out; have h2 := HM.out; omega) _ _ _ G3.out (Bq.wh B1.out)).mono ?_
  rintro e w4 ⟨v_, rfl, hh, kk⟩
  obtain ⟨b4, P4, p4, c4, Q4, q4, d4, rfl⟩ := hh.form2
  have G4 := Lib.hid hh
  clear hh
  have e4 := Lib.hid kk
  have hx4 := Lib.hid (ext_trans hx3.out kk)
  clear kk
  have hz := HZ.out _ hx4.out
  obtain ⟨z0, z1, z2, f0, f1, f2⟩ := row3_0 hz
  have Hz := Lib.hid hz
  clear hz
  go_wp2_with fail
  refine bodyPost_ret (v := .agg #[.bool b4, .slice P4 p4 c4, .slice Q4 q4 d4]) (by simp [results, Tryz.f126]; go_simp) rfl ?_
  exact ⟨_, rfl, G4.out.put3 Hz.out, ext_put3 (ext_trans hww.out hx4.out) Hsz.out _ _ _⟩
theorem rounded_q (M : Nat) (hM : M ≤ 1073741824) (bits : Int) (away : Bool) (vx : Value) (x : Rat) (w : World) (hx : Nm w vx x) (bx : Bq M x) :
    Calls Tryz.prog 126 #[vx, .int .i64 bits, .bool away] w fun e w' => ∃ v, e = .returned v ∧ Nm w' v (roundQ x bits away) ∧ Ext w w' := by
  unfold roundQ
  by_cases h : x = 0
  · rw [if_pos h]; subst h
    exact rounded_zero bits away vx w hx
  · rw [if_neg h]
    exact rounded_main M hM bits away vx x w hx bx h
set_option maxRecDepth 100000 in
set_option maxHeartbeats 4000000 in
theorem down_q (M : Nat) (hM : M ≤ 1073741824) (bits : Int) (vx : Value) (x : Rat) (w : World) (hx : Nm w vx x) (bx : Bq M x) :
    Calls Tryz.prog 31 #[vx, .int .i64 bits] w fun e w' => ∃ v, e = .returned v ∧ Nm w' v (roundQ x bits (decide (x.num < 0))) ∧ Ext w w' := by
  have BX := Lib.hid bx
  have HM := Lib.hid hM
  clear bx hM
  obtain ⟨A, k, ca, B, l, cb, rfl, hxn, hxd, hkx, hlx⟩ := hx.form
  have Hx := Lib.hid hx
  have Hxn := Lib.hid hxn
  have Hkx := Lib.hid hkx
  have Hlx := Lib.hid hlx
  clear hx hxn hxd hkx hlx
  generalize hbx : decide (x.num < 0) = b1 at *
  have Hbx := Lib.hid hbx
  clear hbx
  obtain ⟨hS, hZ, hw1, hw2, hsz, hsz1⟩ := setup1 w (.bool b1) (.slice A k ca) (.slice B l cb)
  have HS := Lib.hid hS
  have HZ := Lib.hid hZ
  have HW1 := Lib.hid hw1
  have HW2 := Lib.hid hw2
  have Hsz1 := Lib.hid hsz1
  clear hS hZ hw1 hw2 hsz hsz1
  go_enter Tryz.func31, Tryz.ntmps31
  go_wp2_with fail
  generalize World.alloc (World.alloc w (.cells #[.bool b1, .slice A k ca, .slice B l cb] _)) _ = W2 at *
  generalize World.alloc w (.cells #[.bool b1, .slice A k ca, .slice B l cb] _) = W1 at *
  generalize hg0 : w.heap.size = g0 at *
  have Hsz := Lib.hid (show w.heap.size ≤ g0 + 1 by omega)
  clear hg0
  have hww := Lib.hid (ext_trans HW1.out HW2.out)
  refine (rounded_q M HM.out bits b1 _ x _ (Hx.out.mono hww.out) BX.out).mono ?_
  rintro e w1 ⟨v1, rfl, h1, k1⟩
  obtain ⟨b4, P4, p4, c4, Q4, q4, d4, rfl⟩ := h1.form2
  have G4 := Lib.hid h1
  have K1 := Lib.hid k1
  have hz := HZ.out _ k1
  obtain ⟨z0, z1, z2, f0, f1, f2⟩ := row3_0 hz
  have Hz := Lib.hid hz
  clear hz h1 k1
  go_wp2_with fail
  refine bodyPost_ret (v := .agg #[.bool b4, .slice P4 p4 c4, .slice Q4 q4 d4]) (by simp [results, Tryz.f31]; go_simp) rfl ?_
  refine ⟨_, rfl, ?_, ext_put3 (ext_trans hww.out K1.out) Hsz.out _ _ _⟩
  exact G4.out.put3 Hz.out
set_option maxRecDepth 100000 in
set_option maxHeartbeats 4000000 in
theorem up_q (M : Nat) (hM : M ≤ 1073741824) (bits : Int) (vx : Value) (x : Rat) (w : World) (hx : Nm w vx x) (bx : Bq M x) :
    Calls Tryz.prog 33 #[vx, .int .i64 bits] w fun e w' => ∃ v, e = .returned v ∧ Nm w' v (roundQ x bits (!decide (x.num < 0))) ∧ Ext w w' := by
  have BX := Lib.hid bx
  have HM := Lib.hid hM
  clear bx hM
  obtain ⟨A, k, ca, B, l, cb, rfl, hxn, hxd, hkx, hlx⟩ := hx.form
  have Hx := Lib.hid hx
  have Hxn := Lib.hid hxn
  have Hkx := Lib.hid hkx
  have Hlx := Lib.hid hlx
  clear hx hxn hxd hkx hlx
  generalize hbx : decide (x.num < 0) = b1 at *
  have Hbx := Lib.hid hbx
  clear hbx
  obtain ⟨hS, hZ, hw1, hw2, hsz, hsz1⟩ := setup1 w (.bool b1) (.slice A k ca) (.slice B l cb)
  have HS := Lib.hid hS
  have HZ := Lib.hid hZ
  have HW1 := Lib.hid hw1
  have HW2 := Lib.hid hw2
  have Hsz1 := Lib.hid hsz1
  clear hS hZ hw1 hw2 hsz hsz1
  go_enter Tryz.func33, Tryz.ntmps33
  go_wp2_with fail
  generalize World.alloc (World.alloc w (.cells #[.bool b1, .slice A k ca, .slice B l cb] _)) _ = W2 at *
  generalize World.alloc w (.cells #[.bool b1, .slice A k ca, .slice B l cb] _) = W1 at *
  generalize hg0 : w.heap.size = g0 at *
  have Hsz := Lib.hid (show w.heap.size ≤ g0 + 1 by omega)
  clear hg0
  have hww := Lib.hid (ext_trans HW1.out HW2.out)
  refine (rounded_q M HM.out bits (!b1) _ x _ (Hx.out.mono hww.out) BX.out).mono ?_
  rintro e w1 ⟨v1, rfl, h1, k1⟩
  obtain ⟨b4, P4, p4, c4, Q4, q4, d4, rfl⟩ := h1.form2
  have G4 := Lib.hid h1
  have K1 := Lib.hid k1
  have hz := HZ.out _ k1
  obtain ⟨z0, z1, z2, f0, f1, f2⟩ := row3_0 hz
  have Hz := Lib.hid hz
  clear hz h1 k1
  go_wp2_with fail
  refine bodyPost_ret (v := .agg #[.bool b4, .slice P4 p4 c4, .slice Q4 q4 d4]) (by simp [results, Tryz.f33]; go_simp) rfl ?_
  refine ⟨_, rfl, ?_, ext_put3 (ext_trans hww.out K1.out) Hsz.out _ _ _⟩
  exact G4.out.put3 Hz.out
set_option maxRecDepth 100000 in
set_option maxHeartbeats 4000000 in
theorem floor_q (M : Nat) (hM : M ≤ 1099511627776) (vx : Value) (x : Rat) (w : World) (hx : Nm w vx x) (bx : Bq M x) :
    Calls Tryz.prog 35 #[vx] w fun e w' => ∃ v, e = .returned v ∧ Nm w' v (wholeQ x (decide (x.num < 0))) ∧ Ext w w' := by
  have BX := Lib.hid bx
  have HM := Lib.hid hM
  clear bx hM
  obtain ⟨A, k, ca, B, l, cb, rfl, hxn, hxd, hkx, hlx⟩ := hx.form
  have Hx := Lib.hid hx
  have Hxn := Lib.hid hxn
  have Hkx := Lib.hid hkx
  have Hlx := Lib.hid hlx
  clear hx hxn hxd hkx hlx
  generalize hbx : decide (x.num < 0) = b1 at *
  have Hbx := Lib.hid hbx
  clear hbx
  obtain ⟨hS, hZ, hw1, hw2, hsz, hsz1⟩ := setup1 w (.bool b1) (.slice A k ca) (.slice B l cb)
  have HS := Lib.hid hS
  have HZ := Lib.hid hZ
  have HW1 := Lib.hid hw1
  have HW2 := Lib.hid hw2
  have Hsz1 := Lib.hid hsz1
  clear hS hZ hw1 hw2 hsz hsz1
  go_enter Tryz.func35, Tryz.ntmps35
  go_wp2_with fail
  generalize World.alloc (World.alloc w (.cells #[.bool b1, .slice A k ca, .slice B l cb] _)) _ = W2 at *
  generalize World.alloc w (.cells #[.bool b1, .slice A k ca, .slice B l cb] _) = W1 at *
  generalize hg0 : w.heap.size = g0 at *
  have Hsz := Lib.hid (show w.heap.size ≤ g0 + 1 by omega)
  clear hg0
  have hww := Lib.hid (ext_trans HW1.out HW2.out)
  refine (whole_q M HM.out b1 _ x _ (Hx.out.mono hww.out) BX.out).mono ?_
  rintro e w1 ⟨v1, rfl, h1, k1⟩
  obtain ⟨b4, P4, p4, c4, Q4, q4, d4, rfl⟩ := h1.form2
  have G4 := Lib.hid h1
  have K1 := Lib.hid k1
  have hz := HZ.out _ k1
  obtain ⟨z0, z1, z2, f0, f1, f2⟩ := row3_0 hz
  have Hz := Lib.hid hz
  clear hz h1 k1
  go_wp2_with fail
  refine bodyPost_ret (v := .agg #[.bool b4, .slice P4 p4 c4, .slice Q4 q4 d4]) (by simp [results, Tryz.f35]; go_simp) rfl ?_
  refine ⟨_, rfl, ?_, ext_put3 (ext_trans hww.out K1.out) Hsz.out _ _ _⟩
  exact G4.out.put3 Hz.out
set_option maxRecDepth 100000 in
set_option maxHeartbeats 4000000 in
theorem ceil_q (M : Nat) (hM : M ≤ 1099511627776) (vx : Value) (x : Rat) (w : World) (hx : Nm w vx x) (bx : Bq M x) :
    Calls Tryz.prog 37 #[vx] w fun e w' => ∃ v, e = .returned v ∧ Nm w' v (wholeQ x (!decide (x.num < 0))) ∧ Ext w w' := by
  have BX := Lib.hid bx
  have HM := Lib.hid hM
  clear bx hM
  obtain ⟨A, k, ca, B, l, cb, rfl, hxn, hxd, hkx, hlx⟩ := hx.form
  have Hx := Lib.hid hx
  have Hxn := Lib.hid hxn
  have Hkx := Lib.hid hkx
  have Hlx := Lib.hid hlx
  clear hx hxn hxd hkx hlx
  generalize hbx : decide (x.num < 0) = b1 at *
  have Hbx := Lib.hid hbx
  clear hbx
  obtain ⟨hS, hZ, hw1, hw2, hsz, hsz1⟩ := setup1 w (.bool b1) (.slice A k ca) (.slice B l cb)
  have HS := Lib.hid hS
  have HZ := Lib.hid hZ
  have HW1 := Lib.hid hw1
  have HW2 := Lib.hid hw2
  have Hsz1 := Lib.hid hsz1
  clear hS hZ hw1 hw2 hsz hsz1
  go_enter Tryz.func37, Tryz.ntmps37
  go_wp2_with fail
  generalize World.alloc (World.alloc w (.cells #[.bool b1, .slice A k ca, .slice B l cb] _)) _ = W2 at *
  generalize World.alloc w (.cells #[.bool b1, .slice A k ca, .slice B l cb] _) = W1 at *
  generalize hg0 : w.heap.size = g0 at *
  have Hsz := Lib.hid (show w.heap.size ≤ g0 + 1 by omega)
  clear hg0
  have hww := Lib.hid (ext_trans HW1.out HW2.out)
  refine (whole_q M HM.out (!b1) _ x _ (Hx.out.mono hww.out) BX.out).mono ?_
  rintro e w1 ⟨v1, rfl, h1, k1⟩
  obtain ⟨b4, P4, p4, c4, Q4, q4, d4, rfl⟩ := h1.form2
  have G4 := Lib.hid h1
  have K1 := Lib.hid k1
  have hz := HZ.out _ k1
  obtain ⟨z0, z1, z2, f0, f1, f2⟩ := row3_0 hz
  have Hz := Lib.hid hz
  clear hz h1 k1
  go_wp2_with fail
  refine bodyPost_ret (v := .agg #[.bool b4, .slice P4 p4 c4, .slice Q4 q4 d4]) (by simp [results, Tryz.f37]; go_simp) rfl ?_
  refine ⟨_, rfl, ?_, ext_put3 (ext_trans hww.out K1.out) Hsz.out _ _ _⟩
  exact G4.out.put3 Hz.out
end Go.Proofs.YtpgdefgdboijlaaGreatDoor
