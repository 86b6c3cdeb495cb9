/- Numbers: powers of ten. Printed by gen_nk.py. -/
import Derived.Test.YtpgdefgdboijlaaGreatDoorNh
import Derived.Deep.LoopGhost
namespace Go.Proofs.YtpgdefgdboijlaaGreatDoor
open Go.RowKit
set_option linter.unusedVariables false

/-- the number times a power of ten -/
def tensQ (x : Rat) (k : Int) : Rat := if k < 0 then rat (decide (x.num < 0)) x.num.natAbs (x.den * 10 ^ k.natAbs) else rat (decide (x.num < 0)) (x.num.natAbs * 10 ^ k.natAbs) x.den
theorem ten_lt (c : Nat) : 10 ^ c < 2 ^ (4 * c + 1) := by
  have h : 10 ^ c ≤ 16 ^ c := Nat.pow_le_pow_left (by decide) c
  rw [Nat.pow_succ, Nat.pow_mul, show (2 : Nat) ^ 4 = 16 from rfl]
  have := Nat.pow_pos (n := c) (show 0 < 16 by decide)
  omega
theorem Bq.tens {B : Nat} {x : Rat} {k : Int} (h : Bq B x) : Bq (B + (4 * k.natAbs + 1)) (tensQ x k) := by
  unfold tensQ
  have hp : 0 < x.den := x.den_pos
  split
  · exact bq_rat (lt_mono h.1 (by omega)) (lt_mul h.2 (ten_lt _)) (Nat.ne_of_gt (Nat.mul_pos hp (Nat.pow_pos (by decide))))
  · exact bq_rat (lt_mul h.1 (ten_lt _)) (lt_mono h.2 (by omega)) (Nat.ne_of_gt hp)
set_option maxRecDepth 100000 in
set_option maxHeartbeats 4000000 in
theorem tens_up (M : Nat) (hM : M ≤ 1099511627776) (j : Nat) (hj : j ≤ 1073741824) (vx : Value) (x : Rat) (w : World) (hx : Nm w vx x) (bx : Bq M x) :
    Calls Tryz.prog 106 #[vx, .int .i64 (j : Int)] w fun e w' => ∃ v, e = .returned v ∧ Nm w' v (tensQ x (j : Int)) ∧ Ext w w' := by
  have S1 := Lib.hid (sm_of_lt bx.1 (by omega))
  have S2 := Lib.hid (sm_of_lt bx.2 (by omega))
  have S3 := Lib.hid (sm_of_lt (lt_mul bx.1 (ten_lt j)) (by omega))
  have S4 := Lib.hid (sm_of_lt (ten_lt j) (by omega))
  have D0 := Lib.hid x.den_pos
  have HJ := Lib.hid hj
  have u1 : IntKind.i64.wrap (-(j : Int)) = -(j : Int) := IntWalk.i64_in _ (by omega)
  have u2 : max (j : Int) (-(j : Int)) = (j : Int) := by omega
  have q2 : ¬ (j : Int) < 0 := by omega
  have q3 : decide ((j : Int) < 0) = false := by rw [decide_eq_false_iff_not]; omega
  clear hj bx hM
  obtain ⟨A, k, ca, B, l, cb, rfl, hxn, hxd, hkx, hlx⟩ := hx.form
  have Hx := Lib.hid hx
  have Hxn := Lib.hid hxn
  have Hkx := Lib.hid hkx
  have Hlx := Lib.hid hlx
  clear hx hxn hxd hkx hlx
  generalize hbx : decide (x.num < 0) = b1 at *
  have Hbx := Lib.hid hbx
  clear hbx
  obtain ⟨hS, hZ, hw1, hw2, hsz, hsz1⟩ := setup1 w (.bool b1) (.slice A k ca) (.slice B l cb)
  have HS := Lib.hid hS
  have HZ := Lib.hid hZ
  have HW1 := Lib.hid hw1
  have HW2 := Lib.hid hw2
  have Hsz1 := Lib.hid hsz1
  clear hS hZ hw1 hw2 hsz hsz1
  go_enter Tryz.func106, Tryz.ntmps106
  go_wp2_with fail
  generalize World.alloc (World.alloc w (.cells #[.bool b1, .slice A k ca, .slice B l cb] _)) _ = W2 at *
  generalize World.alloc w (.cells #[.bool b1, .slice A k ca, .slice B l cb] _) = W1 at *
  generalize hg0 : w.heap.size = g0 at *
  have Hsz := Lib.hid (show w.heap.size ≤ g0 + 1 by omega)
  clear hg0
  have hww := Lib.hid (ext_trans HW1.out HW2.out)
  have hcs := HS.out W2 HW2.out
  refine (one_c _).mono ?_
  rintro e w1 ⟨v1, rfl, h1, k1⟩
  obtain ⟨P1, p1, c1, rfl⟩ := h1.form'
  have G1 := Lib.hid h1
  have K1 := Lib.hid k1
  clear h1 k1
  go_wp2_with fail
  refine (word_c 10 (by decide) _).mono ?_
  rintro e w2 ⟨v2, rfl, h2, k2⟩
  obtain ⟨P2, p2, c2, rfl⟩ := h2.form'
  have G2 := Lib.hid h2
  have K2 := Lib.hid k2
  clear h2 k2 hcs
  go_wp2_with fail
  go_loopg [5, 13] j (fun k p i wr => ∃ c : Nat, c + k = j ∧ i = .int .i64 (c : Int) ∧ Wd wr p (10 ^ c) ∧ Wd wr (.slice P2 p2 c2) 10 ∧ Ext W2 wr)
  case atStart => exact ⟨0, by omega, rfl, G1.out.mono K2.out, G2.out, ext_trans K1.out K2.out⟩
  case round =>
    obtain ⟨c, hc, rfl, hp, h10, hext⟩ := hrel
    obtain ⟨P3, p3, c3, rfl⟩ := hp.form'
    have G3 := Lib.hid hp
    have G10 := Lib.hid h10
    have hx0 := Lib.hid hext
    have HC := Lib.hid hc
    clear hp h10 hext
    rcases Nat.eq_zero_or_pos gk with hz | hz
    · subst hz
      obtain rfl : c = j := by omega
      clear hc
      obtain ⟨r0, r1, r2⟩ := HS.out _ (ext_trans HW2.out hx0.out)
      go_wp2_with fail
      have hS0 := HS.out _ (ext_trans HW2.out hx0.out)
      have e1 := Lib.hid (ext_drew wr)
      have hx1 := Lib.hid (ext_trans hx0.out e1.out)
      go_region_held3 (fun W => W.cell? ⟨g0, 0, none⟩ = some (.bool b1) ∧ W.cell? ⟨g0, 1, none⟩ = some (.slice A k ca) ∧ W.cell? ⟨g0, 2, none⟩ = some (.slice B l cb))
        (first
          | exact HS.out _ (ext_put3 (ext_trans HW2.out hx4.out) Hsz1.out _ _ _)
          | exact HS.out _ (ext_trans HW2.out hx4.out)
          | exact HS.out _ (ext_trans HW2.out hx3.out)
          | exact HS.out _ (ext_trans HW2.out hx2.out)
          | exact HS.out _ (ext_trans HW2.out hx1.out))
        (first
          | (have _q := hx3
             go_at_call 103
             refine (reduced_c _ _ _ _ _ _ (H2.out.mono e3.out) H3.out S3.out S2.out D0.out).mono ?_
             clear _q
             rintro e w6 ⟨vv, rfl, h4, k4⟩
             obtain ⟨b6, P6, p6, c6, Q6, q6, d6, rfl⟩ := h4.form2
             have H4 := Lib.hid h4
             clear h4
             have e4 := Lib.hid k4
             have hx4 := Lib.hid (ext_trans hx3.out k4)
             clear k4
             have hz := HZ.out _ hx4.out
             obtain ⟨z0, z1, z2, f0, f1, f2⟩ := row3_0 hz
             have Hz := Lib.hid hz
             clear hz)
          | (have _q := hx2
             go_at_call 115
             refine (under_c _ _ _ (Hx.out.mono (ext_trans hww.out hx2.out))).mono ?_
             clear _q
             rintro e w5 ⟨vv, rfl, h3, k3⟩
             obtain ⟨P5, p5, c5, rfl⟩ := h3.form'
             have H3 := Lib.hid h3
             clear h3
             have e3 := Lib.hid k3
             have hx3 := Lib.hid (ext_trans hx2.out k3)
             clear k3)
          | (have _q := hx1
             go_at_call 116
             refine (mul_c _ _ _ _ _ (Hxn.out.mono (ext_trans hww.out hx1.out)) (G3.out.mono e1.out) S1.out S4.out).mono ?_
             clear _q
             rintro e w4 ⟨vv, rfl, h2, k2⟩
             obtain ⟨P4, p4, c4, rfl⟩ := h2.form'
             have H2 := Lib.hid h2
             clear h2
             have e2 := Lib.hid k2
             have hx2 := Lib.hid (ext_trans hx1.out k2)
             clear k2))
      go_wp2_with fail
      refine bodyPost_ret (v := .agg #[.bool b6, .slice P6 p6 c6, .slice Q6 q6 d6]) (by simp [results, Tryz.f106]; go_simp) rfl ?_
      refine ⟨_, rfl, ?_, ext_put3 (ext_trans hww.out hx4.out) Hsz.out _ _ _⟩
      have hr : rat b1 (x.num.natAbs * 10 ^ c) x.den = tensQ x (c : Int) := by
        unfold tensQ
        rw [if_neg (by omega), Hbx.out]; rfl
      rw [← hr]
      exact H4.out.put3 Hz.out
    · have hlt : decide (c < j) = true := by rw [decide_eq_true_eq]; omega
      have hlt2 : c < j := by omega
      have q7 : (c : Int) + 1 ≤ 1073741824 := by have := HJ.out; omega
      have Sc := Lib.hid (sm_lt (Nat.pow_le_pow_right (show 0 < 10 by decide) (Nat.le_of_lt hlt2)) S4.out)
      have Hlt := Lib.hid hlt2
      have HZ0 := Lib.hid hz
      clear hlt2 hz hc
      go_wp2_with fail
      refine (mul_c _ _ _ _ _ G3.out G10.out Sc.out (sm_small 10 (by decide))).mono ?_
      rintro e w4 ⟨v4, rfl, h4, k4⟩
      have G4 := Lib.hid h4
      have K4 := Lib.hid k4
      clear h4 k4
      go_wp2_with fail
      go_roundg (gk - 1)
      case measure => have := HZ0.out; omega
      case rel => exact ⟨c + 1, by have := HC.out; have := HZ0.out; omega, by go_num, by rw [Nat.pow_succ]; exact G4.out, G10.out.mono K4.out, ext_trans hx0.out K4.out⟩
set_option maxRecDepth 100000 in
set_option maxHeartbeats 4000000 in
theorem tens_down (M : Nat) (hM : M ≤ 1099511627776) (j : Nat) (h0 : 0 < j) (hj : j ≤ 1073741824) (vx : Value) (x : Rat) (w : World) (hx : Nm w vx x) (bx : Bq M x) :
    Calls Tryz.prog 106 #[vx, .int .i64 (-(j : Int))] w fun e w' => ∃ v, e = .returned v ∧ Nm w' v (tensQ x (-(j : Int))) ∧ Ext w w' := by
  have S1 := Lib.hid (sm_of_lt bx.1 (by omega))
  have S2 := Lib.hid (sm_of_lt bx.2 (by omega))
  have S3 := Lib.hid (sm_of_lt (lt_mul bx.2 (ten_lt j)) (by omega))
  have S4 := Lib.hid (sm_of_lt (ten_lt j) (by omega))
  have D0 := Lib.hid (Nat.mul_pos x.den_pos (Nat.pow_pos (n := j) (show 0 < 10 by decide)))
  have HJ := Lib.hid hj
  have HP := Lib.hid h0
  have u1 : IntKind.i64.wrap (- -(j : Int)) = (j : Int) := (IntWalk.i64_in _ (by omega)).trans (by omega)
  have u2 : max (-(j : Int)) (j : Int) = (j : Int) := by omega
  have u4 : IntKind.i64.wrap (j : Int) = (j : Int) := IntWalk.i64_in _ (by omega)
  have q2 : -(j : Int) < 0 := by omega
  have q3 : decide (-(j : Int) < 0) = true := by rw [decide_eq_true_eq]; omega
  clear hj bx hM h0
  obtain ⟨A, k, ca, B, l, cb, rfl, hxn, hxd, hkx, hlx⟩ := hx.form
  have Hx := Lib.hid hx
  have Hxn := Lib.hid hxn
  have Hkx := Lib.hid hkx
  have Hlx := Lib.hid hlx
  clear hx hxn hxd hkx hlx
  generalize hbx : decide (x.num < 0) = b1 at *
  have Hbx := Lib.hid hbx
  clear hbx
  obtain ⟨hS, hZ, hw1, hw2, hsz, hsz1⟩ := setup1 w (.bool b1) (.slice A k ca) (.slice B l cb)
  have HS := Lib.hid hS
  have HZ := Lib.hid hZ
  have HW1 := Lib.hid hw1
  have HW2 := Lib.hid hw2
  have Hsz1 := Lib.hid hsz1
  clear hS hZ hw1 hw2 hsz hsz1
  go_enter Tryz.func106, Tryz.ntmps106
  go_wp2_with fail
  generalize World.alloc (World.alloc w (.cells #[.bool b1, .slice A k ca, .slice B l cb] _)) _ = W2 at *
  generalize World.alloc w (.cells #[.bool b1, .slice A k ca, .slice B l cb] _) = W1 at *
  generalize hg0 : w.heap.size = g0 at *
  have Hsz := Lib.hid (show w.heap.size ≤ g0 + 1 by omega)
  clear hg0
  have hww := Lib.hid (ext_trans HW1.out HW2.out)
  have hcs := HS.out W2 HW2.out
  refine (one_c _).mono ?_
  rintro e w1 ⟨v1, rfl, h1, k1⟩
  obtain ⟨P1, p1, c1, rfl⟩ := h1.form'
  have G1 := Lib.hid h1
  have K1 := Lib.hid k1
  clear h1 k1
  go_wp2_with fail
  refine (word_c 10 (by decide) _).mono ?_
  rintro e w2 ⟨v2, rfl, h2, k2⟩
  obtain ⟨P2, p2, c2, rfl⟩ := h2.form'
  have G2 := Lib.hid h2
  have K2 := Lib.hid k2
  clear h2 k2 hcs
  go_wp2_with fail
  go_loopg [5, 13] j (fun k p i wr => ∃ c : Nat, c + k = j ∧ i = .int .i64 (c : Int) ∧ Wd wr p (10 ^ c) ∧ Wd wr (.slice P2 p2 c2) 10 ∧ Ext W2 wr)
  case atStart => exact ⟨0, by omega, rfl, G1.out.mono K2.out, G2.out, ext_trans K1.out K2.out⟩
  case round =>
    obtain ⟨c, hc, rfl, hp, h10, hext⟩ := hrel
    obtain ⟨P3, p3, c3, rfl⟩ := hp.form'
    have G3 := Lib.hid hp
    have G10 := Lib.hid h10
    have hx0 := Lib.hid hext
    have HC := Lib.hid hc
    clear hp h10 hext
    rcases Nat.eq_zero_or_pos gk with hz | hz
    · subst hz
      obtain rfl : c = j := by omega
      clear hc
      obtain ⟨r0, r1, r2⟩ := HS.out _ (ext_trans HW2.out hx0.out)
      go_wp2_with fail
      have hS0 := HS.out _ (ext_trans HW2.out hx0.out)
      have e1 := Lib.hid (ext_drew wr)
      have hx1 := Lib.hid (ext_trans hx0.out e1.out)
      go_region_held3 (fun W => W.cell? ⟨g0, 0, none⟩ = some (.bool b1) ∧ W.cell? ⟨g0, 1, none⟩ = some (.slice A k ca) ∧ W.cell? ⟨g0, 2, none⟩ = some (.slice B l cb))
        (first
          | exact HS.out _ (ext_put3 (ext_trans HW2.out hx4.out) Hsz1.out _ _ _)
          | exact HS.out _ (ext_trans HW2.out hx4.out)
          | exact HS.out _ (ext_trans HW2.out hx3.out)
          | exact HS.out _ (ext_trans HW2.out hx2.out)
          | exact HS.out _ (ext_trans HW2.out hx1.out))
        (first
          | (have _q := hx3
             go_at_call 103
             refine (reduced_c _ _ _ _ _ _ (Hxn.out.mono (ext_trans hww.out hx3.out)) H3.out S1.out S3.out D0.out).mono ?_
             clear _q
             rintro e w6 ⟨vv, rfl, h4, k4⟩
             obtain ⟨b6, P6, p6, c6, Q6, q6, d6, rfl⟩ := h4.form2
             have H4 := Lib.hid h4
             clear h4
             have e4 := Lib.hid k4
             have hx4 := Lib.hid (ext_trans hx3.out k4)
             clear k4
             have hz := HZ.out _ hx4.out
             obtain ⟨z0, z1, z2, f0, f1, f2⟩ := row3_0 hz
             have Hz := Lib.hid hz
             clear hz)
          | (have _q := hx2
             go_at_call 116
             refine (mul_c _ _ _ _ _ H2.out (G3.out.mono (ext_trans e1.out e2.out)) S2.out S4.out).mono ?_
             clear _q
             rintro e w5 ⟨vv, rfl, h3, k3⟩
             obtain ⟨P5, p5, c5, rfl⟩ := h3.form'
             have H3 := Lib.hid h3
             clear h3
             have e3 := Lib.hid k3
             have hx3 := Lib.hid (ext_trans hx2.out k3)
             clear k3)
          | (have _q := hx1
             go_at_call 115
             refine (under_c _ _ _ (Hx.out.mono (ext_trans hww.out hx1.out))).mono ?_
             clear _q
             rintro e w4 ⟨vv, rfl, h2, k2⟩
             obtain ⟨P4, p4, c4, rfl⟩ := h2.form'
             have H2 := Lib.hid h2
             clear h2
             have e2 := Lib.hid k2
             have hx2 := Lib.hid (ext_trans hx1.out k2)
             clear k2))
      go_wp2_with fail
      refine bodyPost_ret (v := .agg #[.bool b6, .slice P6 p6 c6, .slice Q6 q6 d6]) (by simp [results, Tryz.f106]; go_simp) rfl ?_
      refine ⟨_, rfl, ?_, ext_put3 (ext_trans hww.out hx4.out) Hsz.out _ _ _⟩
      have hr : rat b1 x.num.natAbs (x.den * 10 ^ c) = tensQ x (-(c : Int)) := by
        unfold tensQ
        rw [if_pos (by have := HP.out; omega), Hbx.out, Int.natAbs_neg]; rfl
      rw [← hr]
      exact H4.out.put3 Hz.out
    · have hlt : decide (c < j) = true := by rw [decide_eq_true_eq]; omega
      have hlt2 : c < j := by omega
      have q7 : (c : Int) + 1 ≤ 1073741824 := by have := HJ.out; omega
      have Sc := Lib.hid (sm_lt (Nat.pow_le_pow_right (show 0 < 10 by decide) (Nat.le_of_lt hlt2)) S4.out)
      have Hlt := Lib.hid hlt2
      have HZ0 := Lib.hid hz
      clear hlt2 hz hc
      go_wp2_with fail
      refine (mul_c _ _ _ _ _ G3.out G10.out Sc.out (sm_small 10 (by decide))).mono ?_
      rintro e w4 ⟨v4, rfl, h4, k4⟩
      have G4 := Lib.hid h4
      have K4 := Lib.hid k4
      clear h4 k4
      go_wp2_with fail
      go_roundg (gk - 1)
      case measure => have := HZ0.out; omega
      case rel => exact ⟨c + 1, by have := HC.out; have := HZ0.out; omega, by go_num, by rw [Nat.pow_succ]; exact G4.out, G10.out.mono K4.out, ext_trans hx0.out K4.out⟩
theorem tens_q (M : Nat) (hM : M ≤ 1099511627776) (z : Int) (hz : z.natAbs ≤ 1073741824) (vx : Value) (x : Rat) (w : World) (hx : Nm w vx x) (bx : Bq M x) :
    Calls Tryz.prog 106 #[vx, .int .i64 z] w fun e w' => ∃ v, e = .returned v ∧ Nm w' v (tensQ x z) ∧ Ext w w' := by
  rcases (show z < 0 ∨ 0 ≤ z by omega) with h | h
  · obtain ⟨k, rfl⟩ : ∃ k : Nat, z = -(k : Int) := ⟨z.natAbs, by omega⟩
    exact tens_down M hM k (by omega) (by omega) vx x w hx bx
  · obtain ⟨k, rfl⟩ : ∃ k : Nat, z = (k : Int) := ⟨z.toNat, by omega⟩
    exact tens_up M hM k (by omega) vx x w hx bx
end Go.Proofs.YtpgdefgdboijlaaGreatDoor
