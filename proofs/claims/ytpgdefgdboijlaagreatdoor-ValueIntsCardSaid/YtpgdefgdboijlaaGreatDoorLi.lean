/- The law of integers, quotients and powers: the walk. Printed by gen_li.py. -/
import Derived.Test.YtpgdefgdboijlaaGreatDoorRv
import Derived.Test.YtpgdefgdboijlaaGreatDoorPr
import Derived.Test.YtpgdefgdboijlaaGreatDoorVd
namespace Go.Proofs.YtpgdefgdboijlaaGreatDoor
open Go.RowKit
set_option linter.unusedVariables false
theorem i64_bnd {z : Int} (h : (Lit.int .i64 z).wf = true) : -9223372036854775808 ≤ z ∧ z < 9223372036854775808 := by
  have h' : -9223372036854775808 ≤ z ∧ z ≤ 9223372036854775807 := by simpa [Lit.wf, IntKind.min, IntKind.max, IntKind.signed, IntKind.bits] using h
  omega
/-- what Ratio says: the error's number and the number -/
def ratP (a b : Int) : Int × Rat := if b = 0 then (8, 0) else (0, (a : Rat) / (b : Rat))
theorem ratio_p (a b : Int) (ha1 : -9223372036854775808 ≤ a) (ha2 : a < 9223372036854775808) (hb1 : -9223372036854775808 ≤ b) (hb2 : b < 9223372036854775808) (w : World) :
    Calls Tryz.prog 20 #[.int .i64 a, .int .i64 b] w fun e w' => ∃ v, e = .returned (.tuple #[v, .int .i64 (ratP a b).1]) ∧ Nm w' v (ratP a b).2 ∧ Ext w w' := by
  unfold ratP
  split
  · rename_i h; exact ratio_q_zero a b ha1 ha2 hb1 hb2 h w
  · rename_i h; exact ratio_q a b ha1 ha2 hb1 hb2 h w
theorem ratio_r (a b : Int) (ha1 : -9223372036854775808 ≤ a) (ha2 : a < 9223372036854775808) (hb1 : -9223372036854775808 ≤ b) (hb2 : b < 9223372036854775808) (w : World) :
    Calls Tryz.prog 21 #[.int .i64 a, .int .i64 b] w fun e w' => ∃ v, e = .returned (.tuple #[v, .int .i64 (ratP a b).1]) ∧ Nr w' v (ratP a b).2 ∧ Ext w w' := by
  unfold ratP
  split
  · rename_i h; exact ratio_n_zero a b ha1 ha2 hb1 hb2 h w
  · rename_i h; exact ratio_n a b ha1 ha2 hb1 hb2 h w
theorem bq_ratP (a b : Int) (ha1 : -9223372036854775808 ≤ a) (ha2 : a < 9223372036854775808) (hb1 : -9223372036854775808 ≤ b) (hb2 : b < 9223372036854775808) : Bq 128 (ratP a b).2 := by
  unfold ratP
  split
  · exact bq_zero _ (by decide)
  · rename_i h; exact (bq_int a ha1 ha2).div (bq_int b hb1 hb2) (fun e => h (Rat.intCast_eq_zero_iff.1 e))
set_option maxRecDepth 100000 in
set_option maxHeartbeats 16000000 in
theorem ints_c (a b z : Int) (ha1 : -9223372036854775808 ≤ a) (ha2 : a < 9223372036854775808) (hb1 : -9223372036854775808 ≤ b) (hb2 : b < 9223372036854775808) (hz1 : -9223372036854775808 ≤ z) (hz2 : z < 9223372036854775808) (w : World) (ht : Tab w) :
    Calls Tryz.prog 4 #[.int .i64 a, .int .i64 b, .int .i64 z] w fun e w' => e = .returned (.bool true) ∧ Ext w w' := by
  have CT0 := Lib.hid (ratio_p a b ha1 ha2 hb1 hb2)
  have CT1 := Lib.hid (ratio_r a b ha1 ha2 hb1 hb2)
  have BX := Lib.hid (bq_ratP a b ha1 ha2 hb1 hb2)
  have BI := Lib.hid (show Bq 64 ((a : Int) : Rat) from bq_int a ha1 ha2)
  have IP := Lib.hid (int_q a ha1 ha2)
  have IR := Lib.hid (int_n a ha1 ha2)
  obtain ⟨x, hx⟩ : ∃ x, (ratP a b).2 = x := ⟨_, rfl⟩
  obtain ⟨k, hk⟩ : ∃ k, (ratP a b).1 = k := ⟨_, rfl⟩
  rw [hx, hk] at CT0 CT1
  rw [hx] at BX
  have BP := Lib.hid (show Bq 8193 (powP x z).2 from Bq.powP BX.out z)
  have CT2 := Lib.hid (fun vx W (h : Nm W vx x) => pow_p 128 (by decide) z hz1 hz2 vx x W h BX.out)
  have CT3 := Lib.hid (fun vx W (h : Nr W vx x) => pow_r 128 (by decide) z hz1 hz2 vx x W h BX.out)
  obtain ⟨y, hy⟩ : ∃ q, (powP x z).2 = q := ⟨_, rfl⟩
  obtain ⟨m, hm⟩ : ∃ k, (powP x z).1 = k := ⟨_, rfl⟩
  rw [hy, hm] at CT2 CT3
  rw [hy] at BP
  have HT := Lib.hid ht
  clear ha1 ha2 hb1 hb2 hz1 hz2 ht hx hk hy hm
  go_enter Tryz.func4, Tryz.ntmps4
  go_wp2_with fail
  refine (CT0.out _).mono ?_
  rintro e w1 ⟨vv, rfl, h9, k9⟩
  obtain ⟨b1, A1, k1, ca1, B1, l1, cb1, rfl⟩ := h9.form2
  have H1 := Lib.hid h9
  have e1 := Lib.hid (show Ext w w1 from k9)
  clear h9 k9
  go_wp2_with fail
  refine (CT1.out _).mono ?_
  rintro e w2 ⟨vv, rfl, h9, k9⟩
  obtain ⟨s2, C2, m2, cc2, D2, n2, cd2, rfl, -, -, -⟩ := h9.form
  have H2 := Lib.hid h9
  have e2 := Lib.hid (show Ext (w1.alloc (.cells #[.bool b1, .slice A1 k1 ca1, .slice B1 l1 cb1] 25)) w2 from k9)
  clear h9 k9
  obtain ⟨a0, a1, a2, -⟩ := row3_0 (row3 (ext_trans e2.out (ext_alloc w2 (.cells #[.int .i64 s2, .slice C2 m2 cc2, .slice D2 n2 cd2] 31))))
  go_wp2_with fail
  refine (CT2.out _ _ (H1.out.mono (ext_trans (ext_alloc _ _) (ext_trans e2.out (ext_alloc _ _))))).mono ?_
  rintro e w3 ⟨vv, rfl, h9, k9⟩
  obtain ⟨b3, A3, k3, ca3, B3, l3, cb3, rfl⟩ := h9.form2
  have H3 := Lib.hid h9
  have e3 := Lib.hid (show Ext (w2.alloc (.cells #[.int .i64 s2, .slice C2 m2 cc2, .slice D2 n2 cd2] 31)) w3 from k9)
  clear h9 k9
  clear a0 a1 a2
  obtain ⟨a0, a1, a2, -⟩ := rowR_0 (rowR (ext_trans e3.out (ext_alloc w3 (.cells #[.bool b3, .slice A3 k3 ca3, .slice B3 l3 cb3] 25))))
  go_wp2_with fail
  refine (CT3.out _ _ (H2.out.mono (ext_trans (ext_alloc _ _) (ext_trans e3.out (ext_alloc _ _))))).mono ?_
  rintro e w4 ⟨vv, rfl, h9, k9⟩
  obtain ⟨s4, C4, m4, cc4, D4, n4, cd4, rfl, -, -, -⟩ := h9.form
  have H4 := Lib.hid h9
  have e4 := Lib.hid (show Ext (w3.alloc (.cells #[.bool b3, .slice A3 k3 ca3, .slice B3 l3 cb3] 25)) w4 from k9)
  clear h9 k9
  clear a0 a1 a2
  go_upto_region 5 with (fail)
  have F4 := ext_alloc w4 (.cells #[.int .i64 s4, .slice C4 m4 cc4, .slice D4 n4 cd4] 31)
  have F3 := ext_trans (ext_alloc w3 (.cells #[.bool b3, .slice A3 k3 ca3, .slice B3 l3 cb3] 25)) (ext_trans e4.out F4)
  have F2 := ext_trans (ext_alloc w2 (.cells #[.int .i64 s2, .slice C2 m2 cc2, .slice D2 n2 cd2] 31)) (ext_trans e3.out F3)
  have F1 := ext_trans (ext_alloc w1 (.cells #[.bool b1, .slice A1 k1 ca1, .slice B1 l1 cb1] 25)) (ext_trans e2.out F2)
  have EX := Lib.hid (ext_trans e1.out F1)
  have TB := Lib.hid (HT.out.mono EX.out)
  have NX := Lib.hid (H1.out.mono F1)
  have NXR := Lib.hid (H2.out.mono F2)
  have NY := Lib.hid (H3.out.mono F3)
  have NYR := Lib.hid (H4.out.mono F4)
  have HS := Lib.hid (show ∀ W : World, Ext (w4.alloc (.cells #[.int .i64 s4, .slice C4 m4 cc4, .slice D4 n4 cd4] 31)) W → W.cell? ⟨w1.heap.size, 0, none⟩ = some (.bool b1) ∧ W.cell? ⟨w1.heap.size, 1, none⟩ = some (.slice A1 k1 ca1) ∧ W.cell? ⟨w1.heap.size, 2, none⟩ = some (.slice B1 l1 cb1) ∧ W.cell? ⟨w2.heap.size, 0, none⟩ = some (.int .i64 s2) ∧ W.cell? ⟨w2.heap.size, 1, none⟩ = some (.slice C2 m2 cc2) ∧ W.cell? ⟨w2.heap.size, 2, none⟩ = some (.slice D2 n2 cd2) ∧ W.cell? ⟨w3.heap.size, 0, none⟩ = some (.bool b3) ∧ W.cell? ⟨w3.heap.size, 1, none⟩ = some (.slice A3 k3 ca3) ∧ W.cell? ⟨w3.heap.size, 2, none⟩ = some (.slice B3 l3 cb3) ∧ W.cell? ⟨w4.heap.size, 0, none⟩ = some (.int .i64 s4) ∧ W.cell? ⟨w4.heap.size, 1, none⟩ = some (.slice C4 m4 cc4) ∧ W.cell? ⟨w4.heap.size, 2, none⟩ = some (.slice D4 n4 cd4) from fun W h => by
    obtain ⟨c0, c1, c2, -⟩ := row3_0 (row3 (ext_trans e2.out (ext_trans F2 h)))
    obtain ⟨c3, c4, c5, -⟩ := rowR_0 (rowR (ext_trans e3.out (ext_trans F3 h)))
    obtain ⟨c6, c7, c8, -⟩ := row3_0 (row3 (ext_trans e4.out (ext_trans F4 h)))
    obtain ⟨c9, c10, c11, -⟩ := rowR_0 (rowR h)
    exact ⟨c0, c1, c2, c3, c4, c5, c6, c7, c8, c9, c10, c11⟩)
  clear F1 F2 F3 F4 H1 H2 H3 H4 e1 e2 e3 e4 HT
  generalize World.alloc w4 (.cells #[.int .i64 s4, .slice C4 m4 cc4, .slice D4 n4 cd4] _) = WR at *
  generalize w1.heap.size = g1 at *
  generalize w2.heap.size = g2 at *
  generalize w3.heap.size = g3 at *
  generalize w4.heap.size = g4 at *
  have K0 := Lib.hid (ext_refl WR)
  obtain ⟨q0, q1, q2, q3, q4, q5, q6, q7, q8, q9, q10, q11⟩ := HS.out _ K0.out
  go_wp2_with fail
  refine (same_c 8193 (by decide) _ _ x _ (NX.out.mono K0.out) (NXR.out.mono K0.out) (BX.out.mono (by decide)) (TB.out.mono K0.out).2).mono ?_
  rintro e u0 ⟨rfl, k9⟩
  have K1 := Lib.hid (ext_trans K0.out k9)
  clear k9
  clear q0 q1 q2 q3 q4 q5 q6 q7 q8 q9 q10 q11
  obtain ⟨q0, q1, q2, q3, q4, q5, q6, q7, q8, q9, q10, q11⟩ := HS.out _ K1.out
  go_wp2_with fail
  refine (same_c 8193 (by decide) _ _ y _ (NY.out.mono K1.out) (NYR.out.mono K1.out) BP.out (TB.out.mono K1.out).2).mono ?_
  rintro e u1 ⟨rfl, k9⟩
  have K2 := Lib.hid (ext_trans K1.out k9)
  clear k9
  clear q0 q1 q2 q3 q4 q5 q6 q7 q8 q9 q10 q11
  go_wp2_with fail
  refine (IP.out _).mono ?_
  rintro e u2 ⟨vv, rfl, h9, k9⟩
  obtain ⟨b11, A11, k11, ca11, B11, l11, cb11, rfl⟩ := h9.form2
  have JP := Lib.hid h9
  clear h9
  have K3 := Lib.hid (ext_trans K2.out k9)
  clear k9
  go_wp2_with fail
  refine (IR.out _).mono ?_
  rintro e u3 ⟨vv, rfl, h9, k9⟩
  obtain ⟨s12, C12, m12, cc12, D12, n12, cd12, rfl, -, -, -⟩ := h9.form
  have JR := Lib.hid h9
  clear h9
  have K4 := Lib.hid (ext_trans K3.out k9)
  have JP' := Lib.hid (JP.out.mono k9)
  clear k9
  go_wp2_with fail
  refine (same_c 8193 (by decide) _ _ ((a : Int) : Rat) _ JP'.out JR.out (BI.out.mono (by decide)) (TB.out.mono K4.out).2).mono ?_
  rintro e u4 ⟨rfl, k9⟩
  have K5 := Lib.hid (ext_trans K4.out k9)
  clear k9
  go_wp2_with fail
  refine (awake_c _ (TB.out.mono K5.out)).mono ?_
  rintro e u5 ⟨rfl, k9⟩
  have K6 := Lib.hid (ext_trans K5.out k9)
  clear k9
  go_wp2_with fail
  go_ret
  exact ⟨rfl, ext_trans EX.out K6.out⟩
end Go.Proofs.YtpgdefgdboijlaaGreatDoor
