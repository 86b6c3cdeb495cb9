/- Numbers: powers with a negative exponent; powers in all. Printed by gen_no.py. -/
import Derived.Test.YtpgdefgdboijlaaGreatDoorNl
import Derived.Test.YtpgdefgdboijlaaGreatDoorVe
import Derived.Deep.LoopGhost
import Derived.Deep.DeepCutAuto
namespace Go.Proofs.YtpgdefgdboijlaaGreatDoor
open Go.RowKit
set_option linter.unusedVariables false
theorem rat_inv (x : Rat) (h : x ≠ 0) : rat (decide (x.num < 0)) x.den x.num.natAbs = 1 / x := by
  have h1 := div_parts 1 x h
  rw [show (1 : Rat).num = 1 from rfl, show (1 : Rat).den = 1 from rfl, show decide ((1 : Int) < 0) = false from rfl, show (1 : Int).natAbs = 1 from rfl, Nat.one_mul, Nat.one_mul, Bool.false_bne] at h1
  exact h1
theorem bq_one_over {M : Nat} {x : Rat} (h : Bq M x) (h0 : x ≠ 0) : Bq M (1 / x) := by
  rw [← rat_inv x h0]
  exact bq_rat h.2 h.1 (fun e => h0 (Rat.num_eq_zero.1 (Int.natAbs_eq_zero.1 e)))
set_option maxRecDepth 100000 in
set_option maxHeartbeats 8000000 in
theorem pow_q_neg (M : Nat) (hM : M ≤ 17179869184) (j : Nat) (h0j : 0 < j) (hj : j ≤ 64) (vx : Value) (x : Rat) (w : World) (hx : Nm w vx x) (bx : Bq M x) (h0 : x ≠ 0) :
    Calls Tryz.prog 22 #[vx, .int .i64 (-(j : Int))] w fun e w' => ∃ v, e = .returned (.tuple #[v, .int .i64 0]) ∧ Nm w' v ((1 / x) ^ j) ∧ Ext w w' := by
  have hMj : M * j ≤ 17179869184 * 64 := Nat.mul_le_mul hM hj
  obtain ⟨y, hy⟩ : ∃ y, 1 / x = y := ⟨_, rfl⟩
  have hby : Bq M y := by rw [← hy]; exact bq_one_over bx h0
  have hyr : rat (decide (x.num < 0)) x.den x.num.natAbs = y := by rw [rat_inv x h0]; exact hy
  rw [hy]
  have HYR := Lib.hid hyr
  have SX1 := Lib.hid (sm_of_lt bx.1 (by omega))
  have SX2 := Lib.hid (sm_of_lt bx.2 (by omega))
  have DX := Lib.hid (Nat.pos_of_ne_zero (fun e => h0 (Rat.num_eq_zero.1 (Int.natAbs_eq_zero.1 e))))
  have S1 := Lib.hid (sm_of_lt hby.1 (by omega))
  have S2 := Lib.hid (sm_of_lt hby.2 (by omega))
  have S3 := Lib.hid (fun c (hc : c ≤ j) => sm_of_lt (lt_pow hby.1 c) (by have := Nat.mul_le_mul_left M hc; omega))
  have S4 := Lib.hid (fun c (hc : c ≤ j) => sm_of_lt (lt_pow hby.2 c) (by have := Nat.mul_le_mul_left M hc; omega))
  have D0 := Lib.hid (Nat.pow_pos (n := j) y.den_pos)
  have HJ := Lib.hid hj
  have q1 : decide (-(j : Int) < -64) = false := by rw [decide_eq_false_iff_not]; omega
  have q1' : decide ((64 : Int) < (j : Int)) = false := by rw [decide_eq_false_iff_not]; omega
  have q1'' : decide (64 < j) = false := by rw [decide_eq_false_iff_not]; omega
  have q2 : decide ((64 : Int) < -(j : Int)) = false := by rw [decide_eq_false_iff_not]; omega
  have q3 : decide (-(j : Int) < 0) = true := by rw [decide_eq_true_eq]; omega
  have q3' : decide (0 < j) = true := by rw [decide_eq_true_eq]; omega
  have q4 : ¬ -(j : Int) < -64 := by omega
  have q5 : ¬ (64 : Int) < -(j : Int) := by omega
  have q9 : IntKind.i64.wrap (j : Int) = (j : Int) := IntWalk.i64_in _ (by omega)
  clear hj bx hM hMj hyr hy hby
  obtain ⟨A, k, ca, B, l, cb, rfl, hxn, hxd, hkx, hlx⟩ := hx.form
  have hk0 : (((k : Int)) == 0) = false := by rw [beq_eq_false_iff_ne]; intro e; exact h0 (hkx.1 (by omega))
  have hk0' : (k == 0) = false := by rw [beq_eq_false_iff_ne]; intro e; exact h0 (hkx.1 e)
  have HxX := Lib.hid hx
  have HxnX := Lib.hid hxn
  clear hx hxn hxd hkx hlx h0 h0j
  generalize hbx : decide (x.num < 0) = b1 at *
  clear hbx
  obtain ⟨hS, hZ, hw1, hw2, hsz, hsz1⟩ := setup1 w (.bool b1) (.slice A k ca) (.slice B l cb)
  have HS := Lib.hid hS
  have HZ := Lib.hid hZ
  have HR0 := Lib.hid (fun W (h : Ext (w.alloc (.cells #[.bool b1, .slice A k ca, .slice B l cb] 25)) W) => row3 h)
  have HW1 := Lib.hid hw1
  have HW2 := Lib.hid hw2
  have Hsz1 := Lib.hid hsz1
  clear hS hZ hw1 hw2 hsz hsz1
  go_enter Tryz.func22, Tryz.ntmps22
  go_upto_block 0 with (fail)
  generalize World.alloc (World.alloc w (.cells #[.bool b1, .slice A k ca, .slice B l cb] _)) _ = W2 at *
  generalize World.alloc w (.cells #[.bool b1, .slice A k ca, .slice B l cb] _) = W1 at *
  generalize hg0 : w.heap.size = g0 at *
  have Hsz := Lib.hid (show w.heap.size ≤ g0 + 1 by omega)
  have Hszg := Lib.hid (show w.heap.size ≤ g0 by omega)
  clear hg0
  have hww := Lib.hid (ext_trans HW1.out HW2.out)
  have n01 := Lib.hid (show g0 + 1 ≠ g0 by omega)
  obtain ⟨x0, x1, x2⟩ := HS.out W2 HW2.out
  go_cut [1] (fun n wx => n = .int .i64 (j : Int) ∧ ∃ b A k ca B l cb, wx.heap[g0]? = some (.cells #[.bool b, .slice A k ca, .slice B l cb] 25 (0, 0)) ∧ wx.heap[g0 + 1]? = some (.cells #[.bool false, .slice none 0 0, .slice none 0 0] 25 (0, 0)) ∧ Nm wx (.agg #[.bool b, .slice A k ca, .slice B l cb]) y ∧ Ext w wx)
  case first =>
    go_upto_region 6 with (fail)
    go_region_with (first
      | (have _q := hx2
         go_at_call 103
         refine (reduced_c b1 _ _ x.den x.num.natAbs _ G5.out (HxnX.out.mono (ext_trans hww.out hx2.out)) SX2.out SX1.out DX.out).mono ?_
         clear _q
         rintro e w7 ⟨v7, rfl, h7, k7⟩
         rw [HYR.out] at h7
         obtain ⟨b7, P7, p7, c7, Q7, q7, d7, rfl⟩ := h7.form2
         have G7 := Lib.hid h7
         have hx3 := Lib.hid (ext_trans hx2.out k7)
         have R7 := Lib.hid (HR0.out _ (ext_trans HW2.out hx3.out))
         clear h7 k7
         obtain ⟨z0, z1, z2, f0, f1, f2⟩ := row3_0 R7.out)
      | (go_at_call 115
         refine (under_c _ x _ (HxX.out.mono (ext_trans hww.out (ext_drew W2)))).mono ?_
         rintro e w5 ⟨v5, rfl, h5, k5⟩
         obtain ⟨P5, p5, c5, rfl⟩ := h5.form'
         have G5 := Lib.hid h5
         have hx2 := Lib.hid (show Ext W2 w5 from ext_trans (ext_drew W2) k5)
         clear h5 k5
         obtain ⟨u0, u1, u2⟩ := HS.out w5 (ext_trans HW2.out hx2.out)))
    all_goals
      go_wp2_with fail
      go_meet
      exact ⟨by first | rfl | simp, b7, P7, p7, c7, Q7, q7, d7, put3_row R7.out _ _ _, put3_other (HZ.out _ hx3.out) n01.out _ _ _, G7.out.put3' R7.out _ _ _, ext_put3 (ext_trans hww.out hx3.out) Hszg.out _ _ _⟩
  case rest =>
    obtain ⟨rfl, b2, A2, k2, ca2, B2, l2, cb2, hr0, hr1, hy, hex⟩ := hcut
    rename World => W3
    obtain ⟨A3, k3, ca3, B3, l3, cb3, he, hxn, hxd, hkx, hlx⟩ := hy.form
    simp only [Value.agg.injEq, Array.mk.injEq, List.cons.injEq, Value.bool.injEq, Value.slice.injEq, and_true] at he
    obtain ⟨hbx, ⟨rfl, rfl, rfl⟩, rfl, rfl, rfl⟩ := he
    have Hx := Lib.hid hy
    have Hxn := Lib.hid hxn
    have Hbx := Lib.hid hbx.symm
    have R0 := Lib.hid hr0
    have R1 := Lib.hid hr1
    clear HS HZ HW2 hww HW1 HxX HxnX HR0 hbx hxn hxd hkx hlx hy Hsz1
    have hww := Lib.hid hex
    have HW2 := Lib.hid (ext_refl W3)
    have HS := Lib.hid (show ∀ W : World, Ext W3 W → W.cell? ⟨g0, 0, none⟩ = some (.bool b2) ∧ W.cell? ⟨g0, 1, none⟩ = some (.slice A2 k2 ca2) ∧ W.cell? ⟨g0, 2, none⟩ = some (.slice B2 l2 cb2) from fun W h => by
      obtain ⟨a, b, c, -⟩ := row3_0 ((h.block _ (lt_of_block R0.out)).trans R0.out)
      exact ⟨a, b, c⟩)
    have HZ := Lib.hid (show ∀ W : World, Ext W3 W → W.heap[g0 + 1]? = some (.cells #[.bool false, .slice none 0 0, .slice none 0 0] 25 (0, 0)) from fun W h => (h.block _ (lt_of_block R1.out)).trans R1.out)
    clear x0 x1 x2 hr0 hr1 hex R0 R1 hk0 hk0'
    clear q1 q1' q1'' q2 q3 q3' q4 q5 q9
    have q6 : ¬ (j : Int) < 0 := by omega
    go_wp2_with fail
    have hcs := HS.out W3 HW2.out
    refine (one_c _).mono ?_
    rintro e wa ⟨v1, rfl, h1, k1⟩
    obtain ⟨P1, p1, c1, rfl⟩ := h1.form'
    have G1 := Lib.hid h1
    have K1 := Lib.hid k1
    clear h1 k1
    go_wp2_with fail
    refine (one_c _).mono ?_
    rintro e wb ⟨v2, rfl, h2, k2⟩
    obtain ⟨P2, p2, c2, rfl⟩ := h2.form'
    have G2 := Lib.hid h2
    have K2 := Lib.hid k2
    clear h2 k2 hcs
    go_wp2_with fail
    go_loopg [6, 7, 41] j (fun k p q i wr => ∃ c : Nat, c + k = j ∧ i = .int .i64 (c : Int) ∧ Wd wr p (y.num.natAbs ^ c) ∧ Wd wr q (y.den ^ c) ∧ Ext W3 wr)
    case atStart => exact ⟨0, by omega, rfl, by rw [Nat.pow_zero]; exact G1.out.mono K2.out, by rw [Nat.pow_zero]; exact G2.out, ext_trans K1.out K2.out⟩
    case round =>
      obtain ⟨c, hc, rfl, hp, hq, hext⟩ := hrel
      obtain ⟨P3, p3, c3, rfl⟩ := hp.form'
      obtain ⟨P4, p4, c4, rfl⟩ := hq.form'
      have G3 := Lib.hid hp
      have G4 := Lib.hid hq
      have hx0 := Lib.hid hext
      have HC := Lib.hid hc
      clear hp hq hext
      rcases Nat.eq_zero_or_pos gk with hz | hz
      · subst hz
        obtain rfl : c = j := by omega
        clear hc
        have hz := HZ.out _ hx0.out
        have Hz := Lib.hid hz
        clear hz
        have hpar : c % 2 = 0 ∨ c % 2 = 1 := Nat.mod_two_eq_zero_or_one c
        have fin : ∀ bb : Bool, (b2 && (c % 2 == 1)) = bb → Hid (rat bb (y.num.natAbs ^ c) (y.den ^ c) = y ^ c) := by
          intro bb hbb
          have := pow_parts y c
          rw [Hbx.out, hbb] at this
          exact this
        rcases hb : b2 with _ | _
        · subst hb
          have Hfin := fin false rfl
          clear fin hpar
          obtain ⟨r0, r1, r2⟩ := HS.out _ (ext_trans HW2.out hx0.out)
          go_wp2_with fail
          refine (reduced_c false _ _ _ _ _ G3.out G4.out (S3.out _ (Nat.le_refl _)) (S4.out _ (Nat.le_refl _)) D0.out).mono ?_
          rintro e w7 ⟨v7, rfl, h7, k7⟩
          obtain ⟨b7, P7, p7, c7, Q7, q7, d7, rfl⟩ := h7.form2
          have G7 := Lib.hid h7
          have K7 := Lib.hid (ext_trans hx0.out k7)
          have hz7 := HZ.out _ K7.out
          obtain ⟨z0, z1, z2, f0, f1, f2⟩ := row3_0 hz7
          have Hz7 := Lib.hid hz7
          clear h7 k7 hz7
          go_wp2_with fail
          refine bodyPost_ret (v := .tuple #[.agg #[.bool b7, .slice P7 p7 c7, .slice Q7 q7 d7], .int .i64 0]) (by simp [results, Tryz.f22]; go_simp) rfl ?_
          refine ⟨_, rfl, ?_, ext_put3 (ext_trans hww.out K7.out) Hsz.out _ _ _⟩
          rw [← Hfin.out]
          exact G7.out.put3 Hz7.out
        · subst hb
          rcases hpar with hp | hp
          · have Hfin := fin false (by rw [hp]; rfl)
            have t5 : ((c : Int) % 2 == 1) = false := by rw [beq_eq_false_iff_ne]; omega
            have t6 : ((c : Int).tmod 2 == 1) = false := by rw [Int.tmod_eq_emod_of_nonneg (by omega), beq_eq_false_iff_ne]; omega
            clear fin hp
            obtain ⟨r0, r1, r2⟩ := HS.out _ (ext_trans HW2.out hx0.out)
            go_wp2_with fail
            refine (reduced_c false _ _ _ _ _ G3.out G4.out (S3.out _ (Nat.le_refl _)) (S4.out _ (Nat.le_refl _)) D0.out).mono ?_
            rintro e w7 ⟨v7, rfl, h7, k7⟩
            obtain ⟨b7, P7, p7, c7, Q7, q7, d7, rfl⟩ := h7.form2
            have G7 := Lib.hid h7
            have K7 := Lib.hid (ext_trans hx0.out k7)
            have hz7 := HZ.out _ K7.out
            obtain ⟨z0, z1, z2, f0, f1, f2⟩ := row3_0 hz7
            have Hz7 := Lib.hid hz7
            clear h7 k7 hz7
            go_wp2_with fail
            refine bodyPost_ret (v := .tuple #[.agg #[.bool b7, .slice P7 p7 c7, .slice Q7 q7 d7], .int .i64 0]) (by simp [results, Tryz.f22]; go_simp) rfl ?_
            refine ⟨_, rfl, ?_, ext_put3 (ext_trans hww.out K7.out) Hsz.out _ _ _⟩
            rw [← Hfin.out]
            exact G7.out.put3 Hz7.out
          · have Hfin := fin true (by rw [hp]; rfl)
            have t5 : ((c : Int) % 2 == 1) = true := by rw [beq_iff_eq]; omega
            have t6 : ((c : Int).tmod 2 == 1) = true := by rw [Int.tmod_eq_emod_of_nonneg (by omega), beq_iff_eq]; omega
            clear fin hp
            obtain ⟨r0, r1, r2⟩ := HS.out _ (ext_trans HW2.out hx0.out)
            go_wp2_with fail
            refine (reduced_c true _ _ _ _ _ G3.out G4.out (S3.out _ (Nat.le_refl _)) (S4.out _ (Nat.le_refl _)) D0.out).mono ?_
            rintro e w7 ⟨v7, rfl, h7, k7⟩
            obtain ⟨b7, P7, p7, c7, Q7, q7, d7, rfl⟩ := h7.form2
            have G7 := Lib.hid h7
            have K7 := Lib.hid (ext_trans hx0.out k7)
            have hz7 := HZ.out _ K7.out
            obtain ⟨z0, z1, z2, f0, f1, f2⟩ := row3_0 hz7
            have Hz7 := Lib.hid hz7
            clear h7 k7 hz7
            go_wp2_with fail
            refine bodyPost_ret (v := .tuple #[.agg #[.bool b7, .slice P7 p7 c7, .slice Q7 q7 d7], .int .i64 0]) (by simp [results, Tryz.f22]; go_simp) rfl ?_
            refine ⟨_, rfl, ?_, ext_put3 (ext_trans hww.out K7.out) Hsz.out _ _ _⟩
            rw [← Hfin.out]
            exact G7.out.put3 Hz7.out
      · have hlt : decide (c < j) = true := by rw [decide_eq_true_eq]; omega
        have hlt2 : c < j := by omega
        have q7 : (c : Int) + 1 ≤ 64 := by have := HJ.out; omega
        have q8 : IntKind.i64.wrap ((c : Int) + 1) = (c : Int) + 1 := IntWalk.i64_in _ (by omega)
        have Hlt := Lib.hid hlt2
        have HZ0 := Lib.hid hz
        have Q8 := Lib.hid q8
        clear hlt2 hz hc q8
        go_wp2_with fail
        have hS0 := HS.out _ (ext_trans HW2.out hx0.out)
        have e1 := Lib.hid (ext_drew wr)
        have hx1 := Lib.hid (ext_trans hx0.out e1.out)
        go_region_held3 (fun W => W.cell? ⟨g0, 0, none⟩ = some (.bool b2) ∧ W.cell? ⟨g0, 1, none⟩ = some (.slice A2 k2 ca2) ∧ W.cell? ⟨g0, 2, none⟩ = some (.slice B2 l2 cb2))
          (first
            | exact HS.out _ (ext_trans HW2.out hx4.out)
            | exact HS.out _ (ext_trans HW2.out hx3.out)
            | exact HS.out _ (ext_trans HW2.out hx2.out)
            | exact HS.out _ (ext_trans HW2.out hx1.out))
          (first
            | (have _q := hx3
               go_at_call 116
               refine (mul_c _ _ _ _ _ (G4.out.mono (ext_trans e1.out (ext_trans e2.out e3.out))) H3.out (S4.out _ (Nat.le_of_lt Hlt.out)) S2.out).mono ?_
               clear _q
               rintro e w8 ⟨vv, rfl, h4, k4⟩
               obtain ⟨P8, p8, c8, rfl⟩ := h4.form'
               have H4 := Lib.hid h4
               clear h4
               have e4 := Lib.hid k4
               have hx4 := Lib.hid (ext_trans hx3.out k4)
               clear k4)
            | (have _q := hx2
               go_at_call 115
               refine (under_c _ _ _ (Hx.out.mono hx2.out)).mono ?_
               clear _q
               rintro e w6 ⟨vv, rfl, h3, k3⟩
               obtain ⟨P6, p6, c6, rfl⟩ := h3.form'
               have H3 := Lib.hid h3
               clear h3
               have e3 := Lib.hid k3
               have hx3 := Lib.hid (ext_trans hx2.out k3)
               clear k3)
            | (have _q := hx1
               go_at_call 116
               refine (mul_c _ _ _ _ _ (G3.out.mono e1.out) (Hxn.out.mono hx1.out) (S3.out _ (Nat.le_of_lt Hlt.out)) S1.out).mono ?_
               clear _q
               rintro e w5 ⟨vv, rfl, h2, k2⟩
               obtain ⟨P5, p5, c5, rfl⟩ := h2.form'
               have H2 := Lib.hid h2
               clear h2
               have e2 := Lib.hid k2
               have hx2 := Lib.hid (ext_trans hx1.out k2)
               clear k2))
        have q8 := Q8.out
        go_wp2_with fail
        go_roundg (gk - 1)
        case measure => have := HZ0.out; omega
        case rel => exact ⟨c + 1, by have := HC.out; have := HZ0.out; omega, by go_num, by rw [Nat.pow_succ]; exact (H2.out.mono (ext_trans e3.out e4.out)), by rw [Nat.pow_succ]; exact H4.out, hx4.out⟩
/-- what Pow says: the error's number and the number -/
def powP (x : Rat) (z : Int) : Int × Rat :=
  if z < -64 ∨ 64 < z then (7, 0) else if z < 0 then (if x = 0 then (8, 0) else (0, (1 / x) ^ z.natAbs)) else (0, x ^ z.natAbs)
theorem pow_p (M : Nat) (hM : M ≤ 17179869184) (z : Int) (h1 : -9223372036854775808 ≤ z) (h2 : z < 9223372036854775808) (vx : Value) (x : Rat) (w : World) (hx : Nm w vx x) (bx : Bq M x) :
    Calls Tryz.prog 22 #[vx, .int .i64 z] w fun e w' => ∃ v, e = .returned (.tuple #[v, .int .i64 (powP x z).1]) ∧ Nm w' v (powP x z).2 ∧ Ext w w' := by
  unfold powP
  split
  · rename_i h
    exact pow_q_range z h h1 h2 vx x w hx
  · rename_i h
    split
    · rename_i hn
      split
      · rename_i h0
        subst h0
        exact pow_q_zero z (by omega) hn vx w hx
      · rename_i h0
        obtain ⟨k, rfl⟩ : ∃ k : Nat, z = -(k : Int) := ⟨z.natAbs, by omega⟩
        rw [Int.natAbs_neg, Int.natAbs_natCast]
        exact pow_q_neg M hM k (by omega) (by omega) vx x w hx bx h0
    · obtain ⟨k, rfl⟩ : ∃ k : Nat, z = (k : Int) := ⟨z.toNat, by omega⟩
      rw [Int.natAbs_natCast]
      exact pow_q M hM k (by omega) vx x w hx bx
theorem Bq.powP {M : Nat} {x : Rat} (h : Bq M x) (z : Int) : Bq (M * 64 + 1) (powP x z).2 := by
  unfold Go.Proofs.YtpgdefgdboijlaaGreatDoor.powP
  split
  · exact bq_zero _ (by omega)
  · rename_i hz
    have hk : M * z.natAbs + 1 ≤ M * 64 + 1 := by have := Nat.mul_le_mul_left M (show z.natAbs ≤ 64 by omega); omega
    split
    · split
      · exact bq_zero _ (by omega)
      · rename_i h0
        exact ((bq_one_over h h0).pow _).mono hk
    · exact (h.pow _).mono hk
end Go.Proofs.YtpgdefgdboijlaaGreatDoor
