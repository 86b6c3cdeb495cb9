/- Numbers: powers. Printed by gen_nl.py. -/
import Derived.Test.YtpgdefgdboijlaaGreatDoorNh
import Derived.Deep.LoopGhost
namespace Go.Proofs.YtpgdefgdboijlaaGreatDoor
open Go.RowKit
set_option linter.unusedVariables false

theorem rat_pow (a : Bool) (n d k : Nat) : rat a n d ^ k = rat (a && (k % 2 == 1)) (n ^ k) (d ^ k) := by
  induction k with
  | zero =>
    rw [Rat.pow_zero, Nat.pow_zero, Nat.pow_zero]
    cases a <;> rfl
  | succ k ih =>
    rw [Rat.pow_succ, ih, rat_mul, Nat.pow_succ, Nat.pow_succ]
    congr 1
    rcases Nat.mod_two_eq_zero_or_one k with h | h
    · have h' : (k + 1) % 2 = 1 := by omega
      rw [h, h']; cases a <;> rfl
    · have h' : (k + 1) % 2 = 0 := by omega
      rw [h, h']; cases a <;> rfl
theorem pow_parts (x : Rat) (k : Nat) : rat (decide (x.num < 0) && (k % 2 == 1)) (x.num.natAbs ^ k) (x.den ^ k) = x ^ k := by
  rw [← rat_pow, rat_self]
theorem lt_pow {n B : Nat} (h : n < 2 ^ B) (k : Nat) : n ^ k < 2 ^ (B * k + 1) := by
  have h1 : n ^ k ≤ (2 ^ B) ^ k := Nat.pow_le_pow_left (Nat.le_of_lt h) k
  rw [← Nat.pow_mul] at h1
  rw [Nat.pow_succ]
  have := Nat.pow_pos (n := B * k) (show 0 < 2 by decide)
  omega
theorem Bq.pow {B : Nat} {x : Rat} (h : Bq B x) (k : Nat) : Bq (B * k + 1) (x ^ k) :=
  ⟨by rw [Rat.num_pow, Int.natAbs_pow]; exact lt_pow h.1 k, by rw [Rat.den_pow]; exact lt_pow h.2 k⟩
set_option maxRecDepth 100000 in
set_option maxHeartbeats 4000000 in
theorem pow_q (M : Nat) (hM : M ≤ 17179869184) (j : Nat) (hj : j ≤ 64) (vx : Value) (x : Rat) (w : World) (hx : Nm w vx x) (bx : Bq M x) :
    Calls Tryz.prog 22 #[vx, .int .i64 (j : Int)] w fun e w' => ∃ v, e = .returned (.tuple #[v, .int .i64 0]) ∧ Nm w' v (x ^ j) ∧ Ext w w' := by
  have hMj : M * j ≤ 17179869184 * 64 := Nat.mul_le_mul hM hj
  have S1 := Lib.hid (sm_of_lt bx.1 (by omega))
  have S2 := Lib.hid (sm_of_lt bx.2 (by omega))
  have S3 := Lib.hid (fun c (hc : c ≤ j) => sm_of_lt (lt_pow bx.1 c) (by have := Nat.mul_le_mul_left M hc; omega))
  have S4 := Lib.hid (fun c (hc : c ≤ j) => sm_of_lt (lt_pow bx.2 c) (by have := Nat.mul_le_mul_left M hc; omega))
  have D0 := Lib.hid (Nat.pow_pos (n := j) x.den_pos)
  have HJ := Lib.hid hj
  have q1 : decide ((j : Int) < -64) = false := by rw [decide_eq_false_iff_not]; omega
  have q2 : decide ((64 : Int) < (j : Int)) = false := by rw [decide_eq_false_iff_not]; omega
  have q3 : decide ((j : Int) < 0) = false := by rw [decide_eq_false_iff_not]; omega
  have q4 : ¬ (j : Int) < -64 := by omega
  have q5 : ¬ (64 : Int) < (j : Int) := by omega
  have q6 : ¬ (j : Int) < 0 := by omega
  clear hj bx hM hMj
  obtain ⟨A, k, ca, B, l, cb, rfl, hxn, hxd, hkx, hlx⟩ := hx.form
  have Hx := Lib.hid hx
  have Hxn := Lib.hid hxn
  have Hkx := Lib.hid hkx
  have Hlx := Lib.hid hlx
  clear hx hxn hxd hkx hlx
  generalize hbx : decide (x.num < 0) = b1 at *
  have Hbx := Lib.hid hbx
  clear hbx
  obtain ⟨hS, hZ, hw1, hw2, hsz, hsz1⟩ := setup1 w (.bool b1) (.slice A k ca) (.slice B l cb)
  have HS := Lib.hid hS
  have HZ := Lib.hid hZ
  have HW1 := Lib.hid hw1
  have HW2 := Lib.hid hw2
  have Hsz1 := Lib.hid hsz1
  clear hS hZ hw1 hw2 hsz hsz1
  go_enter Tryz.func22, Tryz.ntmps22
  go_wp2_with fail
  generalize World.alloc (World.alloc w (.cells #[.bool b1, .slice A k ca, .slice B l cb] _)) _ = W2 at *
  generalize World.alloc w (.cells #[.bool b1, .slice A k ca, .slice B l cb] _) = W1 at *
  generalize hg0 : w.heap.size = g0 at *
  have Hsz := Lib.hid (show w.heap.size ≤ g0 + 1 by omega)
  clear hg0
  have hww := Lib.hid (ext_trans HW1.out HW2.out)
  have hcs := HS.out W2 HW2.out
  refine (one_c _).mono ?_
  rintro e w1 ⟨v1, rfl, h1, k1⟩
  obtain ⟨P1, p1, c1, rfl⟩ := h1.form'
  have G1 := Lib.hid h1
  have K1 := Lib.hid k1
  clear h1 k1
  go_wp2_with fail
  refine (one_c _).mono ?_
  rintro e w2 ⟨v2, rfl, h2, k2⟩
  obtain ⟨P2, p2, c2, rfl⟩ := h2.form'
  have G2 := Lib.hid h2
  have K2 := Lib.hid k2
  clear h2 k2 hcs
  go_wp2_with fail
  go_loopg [6, 7, 41] j (fun k p q i wr => ∃ c : Nat, c + k = j ∧ i = .int .i64 (c : Int) ∧ Wd wr p (x.num.natAbs ^ c) ∧ Wd wr q (x.den ^ c) ∧ Ext W2 wr)
  case atStart => exact ⟨0, by omega, rfl, by rw [Nat.pow_zero]; exact G1.out.mono K2.out, by rw [Nat.pow_zero]; exact G2.out, ext_trans K1.out K2.out⟩
  case round =>
    obtain ⟨c, hc, rfl, hp, hq, hext⟩ := hrel
    obtain ⟨P3, p3, c3, rfl⟩ := hp.form'
    obtain ⟨P4, p4, c4, rfl⟩ := hq.form'
    have G3 := Lib.hid hp
    have G4 := Lib.hid hq
    have hx0 := Lib.hid hext
    have HC := Lib.hid hc
    clear hp hq hext
    rcases Nat.eq_zero_or_pos gk with hz | hz
    · subst hz
      obtain rfl : c = j := by omega
      clear hc
      have hz := HZ.out _ hx0.out
      have Hz := Lib.hid hz
      clear hz
      have hpar : c % 2 = 0 ∨ c % 2 = 1 := Nat.mod_two_eq_zero_or_one c
      have fin : ∀ bb : Bool, (b1 && (c % 2 == 1)) = bb → Hid (rat bb (x.num.natAbs ^ c) (x.den ^ c) = x ^ c) := by
        intro bb hbb
        have := pow_parts x c
        rw [Hbx.out, hbb] at this
        exact this
      rcases hb : b1 with _ | _
      · subst hb
        have Hfin := fin false rfl
        clear fin hpar
        obtain ⟨r0, r1, r2⟩ := HS.out _ (ext_trans HW2.out hx0.out)
        go_wp2_with fail
        refine (reduced_c false _ _ _ _ _ G3.out G4.out (S3.out _ (Nat.le_refl _)) (S4.out _ (Nat.le_refl _)) D0.out).mono ?_
        rintro e w7 ⟨v7, rfl, h7, k7⟩
        obtain ⟨b7, P7, p7, c7, Q7, q7, d7, rfl⟩ := h7.form2
        have G7 := Lib.hid h7
        have K7 := Lib.hid (ext_trans hx0.out k7)
        have hz7 := HZ.out _ K7.out
        obtain ⟨z0, z1, z2, f0, f1, f2⟩ := row3_0 hz7
        have Hz7 := Lib.hid hz7
        clear h7 k7 hz7
        go_wp2_with fail
        refine bodyPost_ret (v := .tuple #[.agg #[.bool b7, .slice P7 p7 c7, .slice Q7 q7 d7], .int .i64 0]) (by simp [results, Tryz.f22]; go_simp) rfl ?_
        refine ⟨_, rfl, ?_, ext_put3 (ext_trans hww.out K7.out) Hsz.out _ _ _⟩
        rw [← Hfin.out]
        exact G7.out.put3 Hz7.out
      · subst hb
        rcases hpar with hp | hp
        · have Hfin := fin false (by rw [hp]; rfl)
          have t5 : ((c : Int) % 2 == 1) = false := by rw [beq_eq_false_iff_ne]; omega
          have t6 : ((c : Int).tmod 2 == 1) = false := by rw [Int.tmod_eq_emod_of_nonneg (by omega), beq_eq_false_iff_ne]; omega
          clear fin hp
          obtain ⟨r0, r1, r2⟩ := HS.out _ (ext_trans HW2.out hx0.out)
          go_wp2_with fail
          refine (reduced_c false _ _ _ _ _ G3.out G4.out (S3.out _ (Nat.le_refl _)) (S4.out _ (Nat.le_refl _)) D0.out).mono ?_
          rintro e w7 ⟨v7, rfl, h7, k7⟩
          obtain ⟨b7, P7, p7, c7, Q7, q7, d7, rfl⟩ := h7.form2
          have G7 := Lib.hid h7
          have K7 := Lib.hid (ext_trans hx0.out k7)
          have hz7 := HZ.out _ K7.out
          obtain ⟨z0, z1, z2, f0, f1, f2⟩ := row3_0 hz7
          have Hz7 := Lib.hid hz7
          clear h7 k7 hz7
          go_wp2_with fail
          refine bodyPost_ret (v := .tuple #[.agg #[.bool b7, .slice P7 p7 c7, .slice Q7 q7 d7], .int .i64 0]) (by simp [results, Tryz.f22]; go_simp) rfl ?_
          refine ⟨_, rfl, ?_, ext_put3 (ext_trans hww.out K7.out) Hsz.out _ _ _⟩
          rw [← Hfin.out]
          exact G7.out.put3 Hz7.out
        · have Hfin := fin true (by rw [hp]; rfl)
          have t5 : ((c : Int) % 2 == 1) = true := by rw [beq_iff_eq]; omega
          have t6 : ((c : Int).tmod 2 == 1) = true := by rw [Int.tmod_eq_emod_of_nonneg (by omega), beq_iff_eq]; omega
          clear fin hp
          obtain ⟨r0, r1, r2⟩ := HS.out _ (ext_trans HW2.out hx0.out)
          go_wp2_with fail
          refine (reduced_c true _ _ _ _ _ G3.out G4.out (S3.out _ (Nat.le_refl _)) (S4.out _ (Nat.le_refl _)) D0.out).mono ?_
          rintro e w7 ⟨v7, rfl, h7, k7⟩
          obtain ⟨b7, P7, p7, c7, Q7, q7, d7, rfl⟩ := h7.form2
          have G7 := Lib.hid h7
          have K7 := Lib.hid (ext_trans hx0.out k7)
          have hz7 := HZ.out _ K7.out
          obtain ⟨z0, z1, z2, f0, f1, f2⟩ := row3_0 hz7
          have Hz7 := Lib.hid hz7
          clear h7 k7 hz7
          go_wp2_with fail
          refine bodyPost_ret (v := .tuple #[.agg #[.bool b7, .slice P7 p7 c7, .slice Q7 q7 d7], .int .i64 0]) (by simp [results, Tryz.f22]; go_simp) rfl ?_
          refine ⟨_, rfl, ?_, ext_put3 (ext_trans hww.out K7.out) Hsz.out _ _ _⟩
          rw [← Hfin.out]
          exact G7.out.put3 Hz7.out
    · have hlt : decide (c < j) = true := by rw [decide_eq_true_eq]; omega
      have hlt2 : c < j := by omega
      have q7 : (c : Int) + 1 ≤ 64 := by have := HJ.out; omega
      have q8 : IntKind.i64.wrap ((c : Int) + 1) = (c : Int) + 1 := IntWalk.i64_in _ (by omega)
      have Hlt := Lib.hid hlt2
      have HZ0 := Lib.hid hz
      have Q8 := Lib.hid q8
      clear hlt2 hz hc q8
      go_wp2_with fail
      have hS0 := HS.out _ (ext_trans HW2.out hx0.out)
      have e1 := Lib.hid (ext_drew wr)
      have hx1 := Lib.hid (ext_trans hx0.out e1.out)
      go_region_held3 (fun W => W.cell? ⟨g0, 0, none⟩ = some (.bool b1) ∧ W.cell? ⟨g0, 1, none⟩ = some (.slice A k ca) ∧ W.cell? ⟨g0, 2, none⟩ = some (.slice B l cb))
        (first
          | exact HS.out _ (ext_trans HW2.out hx4.out)
          | exact HS.out _ (ext_trans HW2.out hx3.out)
          | exact HS.out _ (ext_trans HW2.out hx2.out)
          | exact HS.out _ (ext_trans HW2.out hx1.out))
        (first
          | (have _q := hx3
             go_at_call 116
             refine (mul_c _ _ _ _ _ (G4.out.mono (ext_trans e1.out (ext_trans e2.out e3.out))) H3.out (S4.out _ (Nat.le_of_lt Hlt.out)) S2.out).mono ?_
             clear _q
             rintro e w8 ⟨vv, rfl, h4, k4⟩
             obtain ⟨P8, p8, c8, rfl⟩ := h4.form'
             have H4 := Lib.hid h4
             clear h4
             have e4 := Lib.hid k4
             have hx4 := Lib.hid (ext_trans hx3.out k4)
             clear k4)
          | (have _q := hx2
             go_at_call 115
             refine (under_c _ _ _ (Hx.out.mono (ext_trans hww.out hx2.out))).mono ?_
             clear _q
             rintro e w6 ⟨vv, rfl, h3, k3⟩
             obtain ⟨P6, p6, c6, rfl⟩ := h3.form'
             have H3 := Lib.hid h3
             clear h3
             have e3 := Lib.hid k3
             have hx3 := Lib.hid (ext_trans hx2.out k3)
             clear k3)
          | (have _q := hx1
             go_at_call 116
             refine (mul_c _ _ _ _ _ (G3.out.mono e1.out) (Hxn.out.mono (ext_trans hww.out hx1.out)) (S3.out _ (Nat.le_of_lt Hlt.out)) S1.out).mono ?_
             clear _q
             rintro e w5 ⟨vv, rfl, h2, k2⟩
             obtain ⟨P5, p5, c5, rfl⟩ := h2.form'
             have H2 := Lib.hid h2
             clear h2
             have e2 := Lib.hid k2
             have hx2 := Lib.hid (ext_trans hx1.out k2)
             clear k2))
      have q8 := Q8.out
      go_wp2_with fail
      go_roundg (gk - 1)
      case measure => have := HZ0.out; omega
      case rel => exact ⟨c + 1, by have := HC.out; have := HZ0.out; omega, by go_num, by rw [Nat.pow_succ]; exact (H2.out.mono (ext_trans e3.out e4.out)), by rw [Nat.pow_succ]; exact H4.out, hx4.out⟩
set_option maxRecDepth 100000 in
set_option maxHeartbeats 4000000 in
theorem pow_q_range (z : Int) (hz : z < -64 ∨ 64 < z) (h1 : -9223372036854775808 ≤ z) (h2 : z < 9223372036854775808) (vx : Value) (x : Rat) (w : World) (hx : Nm w vx x) :
    Calls Tryz.prog 22 #[vx, .int .i64 z] w fun e w' => ∃ v, e = .returned (.tuple #[v, .int .i64 7]) ∧ Nm w' v 0 ∧ Ext w w' := by
  obtain ⟨A, k, ca, B, l, cb, rfl, -, -, -, -⟩ := hx.form
  clear hx
  generalize decide (x.num < 0) = b1 at *
  rcases hz with h | h
  · have t1 : decide (z < -64) = true := by rw [decide_eq_true_eq]; exact h
    go_enter Tryz.func22, Tryz.ntmps22
    go_wp2_with fail
    refine bodyPost_ret (v := .tuple #[.agg #[.bool false, .slice none 0 0, .slice none 0 0], .int .i64 7]) (by simp [results, Tryz.f22]; go_simp) rfl ?_
    exact ⟨_, rfl, Nm.zero _, ext2 _ _ _⟩
  · have t1 : decide (z < -64) = false := by rw [decide_eq_false_iff_not]; omega
    have t3 : ¬ z < -64 := by omega
    have t2 : decide (64 < z) = true := by rw [decide_eq_true_eq]; exact h
    go_enter Tryz.func22, Tryz.ntmps22
    go_wp2_with fail
    refine bodyPost_ret (v := .tuple #[.agg #[.bool false, .slice none 0 0, .slice none 0 0], .int .i64 7]) (by simp [results, Tryz.f22]; go_simp) rfl ?_
    exact ⟨_, rfl, Nm.zero _, ext2 _ _ _⟩
theorem pow_q_zero (z : Int) (h1 : -64 ≤ z) (h2 : z < 0) (vx : Value) (w : World) (hx : Nm w vx 0) :
    Calls Tryz.prog 22 #[vx, .int .i64 z] w fun e w' => ∃ v, e = .returned (.tuple #[v, .int .i64 8]) ∧ Nm w' v 0 ∧ Ext w w' := by
  obtain ⟨A, k, ca, B, l, cb, rfl, -, -, hk, -⟩ := hx.form
  obtain rfl : k = 0 := hk.2 rfl
  clear hx hk
  generalize decide ((0 : Rat).num < 0) = b1 at *
  have t1 : decide (z < -64) = false := by rw [decide_eq_false_iff_not]; omega
  have t3 : ¬ z < -64 := by omega
  have t2 : decide (64 < z) = false := by rw [decide_eq_false_iff_not]; omega
  have t4 : decide (z < 0) = true := by rw [decide_eq_true_eq]; exact h2
  go_enter Tryz.func22, Tryz.ntmps22
  go_wp2_with fail
  refine bodyPost_ret (v := .tuple #[.agg #[.bool false, .slice none 0 0, .slice none 0 0], .int .i64 8]) (by simp [results, Tryz.f22]; go_simp) rfl ?_
  exact ⟨_, rfl, Nm.zero _, ext2 _ _ _⟩
end Go.Proofs.YtpgdefgdboijlaaGreatDoor
