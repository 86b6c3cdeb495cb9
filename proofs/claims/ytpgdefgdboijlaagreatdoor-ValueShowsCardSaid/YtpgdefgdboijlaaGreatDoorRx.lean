/- The reference's engineering texts, shown. Printed by gen_rx.py. -/
import Derived.Test.YtpgdefgdboijlaaGreatDoorRw
namespace Go.Proofs.YtpgdefgdboijlaaGreatDoor
open Go.RowKit
set_option linter.unusedVariables false
theorem setupR1h (w : World) (x0 x1 x2 : Value) : Ext w (w.alloc (.cells #[x0, x1, x2] 31)) ∧ (∀ W, Ext (w.alloc (.cells #[x0, x1, x2] 31)) W → W.cell? ⟨w.heap.size, 0, none⟩ = some x0 ∧ W.cell? ⟨w.heap.size, 1, none⟩ = some x1 ∧ W.cell? ⟨w.heap.size, 2, none⟩ = some x2) :=
  ⟨ext_alloc _ _, fun W h => ⟨(rowR_0 (rowR h)).1, (rowR_0 (rowR h)).2.1, (rowR_0 (rowR h)).2.2.1⟩⟩
theorem ext1c (c : Nat) (h : c < 10) : (⟨#[102, 112, 110, 117, 109, 32, 107, 77, 71, 84]⟩ : ByteArray).extract c (c + 1) = ⟨[pfxc.getD c 0].toArray⟩ := by
  rcases (show c = 0 ∨ c = 1 ∨ c = 2 ∨ c = 3 ∨ c = 4 ∨ c = 5 ∨ c = 6 ∨ c = 7 ∨ c = 8 ∨ c = 9 by omega) with rfl | rfl | rfl | rfl | rfl | rfl | rfl | rfl | rfl | rfl <;> rfl
theorem absQ_ne {x : Rat} (h : x ≠ 0) : absQ x ≠ 0 := by
  unfold absQ
  split
  · exact neg_ne h
  · exact h
theorem wr_txt {W : World} {s : Int} {vt vb : Value} {q : Rat} (h : Nr W (.agg #[.int .i64 s, vt, vb]) q) : Wr W vt q.num.natAbs := by
  obtain ⟨s', vt', vb', e, h1, h2, h3⟩ := h
  simp only [Value.agg.injEq, Array.mk.injEq, List.cons.injEq, and_true] at e
  obtain ⟨-, rfl, rfl⟩ := e
  exact h2
theorem show_n_zero (vx : Value) (w : World) (hx : Nr w vx 0) :
    Calls Tryz.prog 28 #[vx] w fun e w' => e = .returned (.string ⟨(showS 0).toArray⟩) ∧ Ext w w' := by
  obtain ⟨s, A, k, ca, B, l, cb, rfl, hsg, -, -⟩ := hx.form
  obtain rfl : s = 0 := hsg.symm
  clear hx hsg
  rw [showS_zero]
  go_enter Tryz.func28, Tryz.ntmps28
  go_wp2_with fail
  go_ret
  exact ⟨rfl, ext_alloc _ _⟩
set_option maxRecDepth 100000 in
set_option maxHeartbeats 16000000 in
theorem show_n_main (M : Nat) (hM : M ≤ 1000000) (vx : Value) (x : Rat) (w : World) (hx : Nr w vx x) (bx : Bq M x) (h0 : x ≠ 0) :
    Calls Tryz.prog 28 #[vx] w fun e w' => e = .returned (.string ⟨(showS x).toArray⟩) ∧ Ext w w' := by
  obtain ⟨s, A, k, ca, B, l, cb, rfl, hsg, -, -⟩ := hx.form
  obtain ⟨hw1, hS⟩ := setupR1h w (.int .i64 s) (.slice A k ca) (.slice B l cb)
  have HS := Lib.hid hS
  have HWW := Lib.hid hw1
  have Hx := Lib.hid (hx.mono hw1)
  have hz0 : (s == 0) = false := by
    rw [beq_eq_false_iff_ne, ← hsg]
    intro e; exact h0 (Rat.num_eq_zero.1 (Int.sign_eq_zero_iff_zero.1 e))
  obtain ⟨b1, hb1⟩ : ∃ b, decide (x.num < 0) = b := ⟨_, rfl⟩
  have HSB := Lib.hid (show decide (s < 0) = b1 by
    rw [← hb1, decide_eq_decide, ← hsg]
    rcases Int.lt_trichotomy x.num 0 with e | e | e
    · rw [Int.sign_eq_neg_one_of_neg e]; simp [e]
    · exact absurd (Rat.num_eq_zero.1 e) h0
    · rw [Int.sign_eq_one_of_pos e]; constructor <;> intro h <;> omega)
  have Hbx := Lib.hid hb1
  have H0 := Lib.hid h0
  obtain ⟨sz, hszq⟩ : ∃ q, absQ x = q := ⟨_, rfl⟩
  have HSQ := Lib.hid hszq
  have BS := Lib.hid (show Bq (M + 200) sz by rw [← hszq]; exact bx.abs.mono (by omega))
  have HSN := Lib.hid (show sz ≠ 0 by rw [← hszq]; exact absQ_ne h0)
  have BX := Lib.hid bx
  have HM := Lib.hid hM
  have BT := Lib.hid (fun (z : Int) (hz : z.natAbs ≤ 30) => (show Bq (M + 200) (tensQ 1 z) from (Bq.tens bq_one).mono (by omega)))
  clear hx bx h0 hb1 hszq hM hS hw1 hsg
  go_enter Tryz.func28, Tryz.ntmps28
  go_upto_block 0 with (fail)
  generalize w.alloc (.cells #[.int .i64 s, .slice A k ca, .slice B l cb] _) = W1 at *
  generalize w.heap.size = g0 at *
  go_cut [3] (fun a wx => ∃ at' : Nat, a = .int .i64 (at' : Int) ∧ Hid (at' < 10 ∧ pickP sz (pfxO 0) (pfxs.drop 1) = pfxO at') ∧ Ext W1 wx)
  case first =>
    go_wp2_with fail
    go_loopg [3, 4] 9 (fun k a i wr => ∃ c at' : Nat, c + k = 10 ∧ a = .int .i64 (at' : Int) ∧ i = .int .i64 (c : Int) ∧ Hid (1 ≤ c ∧ at' < 10 ∧ pickP sz (pfxO 0) (pfxs.drop 1) = pickP sz (pfxO at') (pfxs.drop c)) ∧ Ext W1 wr)
    case atStart => exact ⟨1, 0, rfl, rfl, rfl, ⟨by omega, by omega, rfl⟩, ext_refl _⟩
    case round =>
      obtain ⟨c, at', hc, rfl, rfl, HPX, hext⟩ := hrel
      have HEX := Lib.hid hext
      clear hext
      rcases Nat.eq_zero_or_pos gk with hz | hz
      · subst hz
        obtain rfl : c = 10 := by omega
        go_wp2_with fail
        go_meet
        exact ⟨at', rfl, ⟨HPX.out.2.1, HPX.out.2.2⟩, HEX.out⟩
      · have hc10 : decide ((c : Int) < 10) = true := by rw [decide_eq_true_eq]; omega
        have hc10' : c < 10 := by omega
        have HC10 := Lib.hid hc10'
        have w1 : IntKind.i64.wrap (3 * (c : Int)) = 3 * (c : Int) := IntWalk.i64_in _ (by omega)
        have w2 : IntKind.i64.wrap (3 * (c : Int) - 15) = 3 * (c : Int) - 15 := IntWalk.i64_in _ (by omega)
        have W3_ := Lib.hid (show IntKind.i64.wrap ((c : Int) + 1) = (c : Int) + 1 from IntWalk.i64_in _ (by omega))
        have HTZ := Lib.hid (show (3 * (c : Int) - 15).natAbs ≤ 30 by omega)
        obtain ⟨cv, hcv⟩ : ∃ cv, cmpQ sz (tensQ 1 (3 * (c : Int) - 15)) = cv := ⟨_, rfl⟩
        have HCV := Lib.hid hcv
        have HZ0 := Lib.hid hz
        have HC := Lib.hid hc
        clear hz hc hcv
        obtain ⟨r0, r1, r2⟩ := HS.out _ HEX.out
        go_wp2_with fail
        refine (abs_n _ x _ (Hx.out.mono HEX.out)).mono ?_
        rintro e w2 ⟨v2, rfl, h9, k9⟩
        rw [HSQ.out] at h9
        have J1 := Lib.hid h9
        have K1 := Lib.hid (ext_trans HEX.out k9)
        clear h9 k9 r0 r1 r2
        go_wp2_with fail
        refine (ten_n (3 * (c : Int) - 15) (Nat.le_trans HTZ.out (by decide)) _).mono ?_
        rintro e w3 ⟨v3, rfl, h9, k9⟩
        have J2 := Lib.hid h9
        have J1' := Lib.hid (J1.out.mono k9)
        have K2 := Lib.hid (ext_trans K1.out k9)
        clear h9 k9
        go_wp2_with fail
        refine (cmp_e (M + 200) (by have := HM.out; omega) _ _ sz _ cv HCV.out _ J1'.out J2.out BS.out (BT.out _ HTZ.out)).mono ?_
        rintro e w4 ⟨rfl, k9⟩
        have K3 := Lib.hid (ext_trans K2.out k9)
        clear k9
        by_cases hcc : 0 ≤ cv
        · have t1 : decide (0 ≤ cv) = true := decide_eq_true hcc
          have HCC := Lib.hid hcc
          have w3 := W3_.out
          clear hcc
          go_wp2_with fail
          go_roundg (gk - 1)
          case measure => have := HZ0.out; omega
          case rel => exact ⟨c + 1, c, by have := HC.out; have := HZ0.out; omega, rfl, by go_num, ⟨by omega, HC10.out, by rw [HPX.out.2.2, pickP_hit sz _ c HC10.out (by rw [HCV.out]; exact HCC.out)]⟩, K3.out⟩
        · have t1 : decide (0 ≤ cv) = false := decide_eq_false hcc
          have HCC := Lib.hid hcc
          have w3 := W3_.out
          clear hcc
          go_wp2_with fail
          go_roundg (gk - 1)
          case measure => have := HZ0.out; omega
          case rel => exact ⟨c + 1, at', by have := HC.out; have := HZ0.out; omega, rfl, by go_num, ⟨by omega, HPX.out.2.1, by rw [HPX.out.2.2, pickP_miss sz _ c HC10.out (by rw [HCV.out]; have := HCC.out; omega)]⟩, K3.out⟩
  case rest =>
    obtain ⟨at', rfl, HPX, hext⟩ := hcut
    rename World => W2
    have HEX := Lib.hid hext
    have HAT := Lib.hid HPX.out.1
    have hat := HPX.out.1
    obtain ⟨kp, hkp⟩ : ∃ z : Int, z = 3 * (at' : Int) - 15 := ⟨_, rfl⟩
    obtain ⟨ch, hch⟩ : ∃ c, pfxc.getD at' 0 = c := ⟨_, rfl⟩
    have HPC := Lib.hid (show (pfxT ch, kp) = pickP (absQ x) ([102], -15) pfxs.tail by
      rw [HSQ.out]; refine Eq.trans ?_ HPX.out.2.symm; unfold pfxO; rw [hch, hkp])
    have w1 : IntKind.i64.wrap (3 * (at' : Int)) = 3 * (at' : Int) := IntWalk.i64_in _ (by omega)
    have w2 : IntKind.i64.wrap (15 - 3 * (at' : Int)) = -kp := (IntWalk.i64_in _ (by omega)).trans (by omega)
    have HTZ := Lib.hid (show (-kp).natAbs ≤ 30 by omega)
    have HCH := Lib.hid hch
    have HKP := Lib.hid hkp
    obtain ⟨m0, hm0⟩ : ∃ m, m = tensQ (absQ x) (-kp) := ⟨_, rfl⟩
    have HM0 := Lib.hid hm0
    have HMM := Lib.hid (show sz * tensQ 1 (-kp) = m0 by rw [hm0, tens_mul, HSQ.out])
    have HMN := Lib.hid (show m0 ≠ 0 by rw [hm0, HSQ.out]; exact tensQ_ne HSN.out _)
    have BM := Lib.hid (show Bq (2 * M + 400) m0 by rw [← HMM.out]; exact (BS.out.mul (BT.out _ HTZ.out)).mono (by omega))
    clear hext HPX hat hkp hch hm0
    obtain ⟨r0, r1, r2⟩ := HS.out _ HEX.out
    go_wp2_with fail
    refine (abs_n _ x _ (Hx.out.mono HEX.out)).mono ?_
    rintro e w2 ⟨v2, rfl, h9, k9⟩
    rw [HSQ.out] at h9
    have J1 := Lib.hid h9
    have K1 := Lib.hid (ext_trans HEX.out k9)
    clear h9 k9 r0 r1 r2
    go_wp2_with fail
    refine (ten_n (-kp) (Nat.le_trans HTZ.out (by decide)) _).mono ?_
    rintro e w3 ⟨v3, rfl, h9, k9⟩
    have J2 := Lib.hid h9
    have J1' := Lib.hid (J1.out.mono k9)
    have K2 := Lib.hid (ext_trans K1.out k9)
    clear h9 k9
    go_wp2_with fail
    refine (mul_n (M + 200) (by have := HM.out; omega) _ _ sz _ _ J1'.out J2.out BS.out (BT.out _ HTZ.out)).mono ?_
    rintro e w4 ⟨v4, rfl, h9, k9⟩
    rw [HMM.out] at h9
    obtain ⟨s9, A9, k9', c9, B9, l9, d9, h9e, -⟩ := h9.form
    subst h9e
    go_upto_block 2 with (fail)
    obtain ⟨hw5, hS5⟩ := setupR1h w4 (.int .i64 s9) (.slice A9 k9' c9) (.slice B9 l9 d9)
    have HS5 := Lib.hid hS5
    have N5 := Lib.hid (h9.mono hw5)
    have X5 := Lib.hid (ext_trans K2.out (ext_trans k9 hw5))
    clear h9 k9 hw5 hS5 J1 J2 J1' K1 K2 w1 w2
    generalize w4.alloc (.cells #[.int .i64 s9, .slice A9 k9' c9, .slice B9 l9 d9] _) = W5 at *
    generalize w4.heap.size = g5 at *
    go_cut [6] (fun b wx => ∃ bn : Nat, b = .int .i64 (bn : Int) ∧ Hid (PtS m0 bn ∧ (bn ≤ 12 → (tensQ m0 (bn : Int)).den = 1)) ∧ Ext W5 wx)
    case first =>
      go_wp2_with fail
      go_loopg [6] 13 (fun k b wr => ∃ c : Nat, c + k = 13 ∧ b = .int .i64 (c : Int) ∧ Hid (PtS m0 c) ∧ Ext W5 wr)
      case atStart => exact ⟨0, rfl, rfl, pt_start m0, ext_refl _⟩
      case round =>
        obtain ⟨c, hc, rfl, HPT, hext⟩ := hrel
        have HE := Lib.hid hext
        clear hext
        rename World => WR
        rcases Nat.eq_zero_or_pos gk with hz | hz
        · subst hz
          obtain rfl : c = 13 := by omega
          clear hc
          have r := HS5.out _ HE.out
          obtain ⟨r0, r1, r2⟩ := r
          have hun : undef = .tuple #[] := rfl
          go_wp2_with fail
          go_quiet (fail)
          go_wp2_with fail
          go_meet
          exact ⟨13, rfl, ⟨HPT.out, fun h => by omega⟩, ext_trans HE.out (ext_drewN _ _)⟩
        · have hc12 : decide ((c : Int) ≤ 12) = true := by rw [decide_eq_true_eq]; omega
          have hc12' : decide (c ≤ 12) = true := by rw [decide_eq_true_eq]; omega
          have HC12 := Lib.hid (show c ≤ 12 by omega)
          have W3_ := Lib.hid (show IntKind.i64.wrap ((c : Int) + 1) = (c : Int) + 1 from IntWalk.i64_in _ (by omega))
          have HTC := Lib.hid (show ((c : Int)).natAbs ≤ 30 by omega)
          obtain ⟨bd, hbd⟩ : ∃ b, decide ((tensQ m0 (c : Int)).den = 1) = b := ⟨_, rfl⟩
          have HBD := Lib.hid hbd
          have HZ0 := Lib.hid hz
          have HC := Lib.hid hc
          clear hz hc hbd
          have hS0 := HS5.out _ HE.out
          have hx1 := Lib.hid (ext_trans HE.out (ext_drew WR))
          go_upto_region 11 with (fail)
          go_cut [41] (fun v wx => v = .bool (!bd) ∧ Hid (Ext W5 wx))
          case first =>
            go_region_held3 (fun W => W.cell? ⟨g5, 0, none⟩ = some (.int .i64 s9) ∧ W.cell? ⟨g5, 1, none⟩ = some (.slice A9 k9' c9) ∧ W.cell? ⟨g5, 2, none⟩ = some (.slice B9 l9 d9))
              (first
                | exact HS5.out _ hx5.out
                | exact HS5.out _ hx4.out
                | exact HS5.out _ hx3.out
                | exact HS5.out _ hx2.out
                | exact HS5.out _ hx1.out)
              (first
                | (have _q := hx4
                   go_at_call 122
                   refine (is1_r _ _ bd HBD.out _ JU.out).mono ?_
                   clear _q
                   rintro e wx4 ⟨rfl, rfl⟩
                   have hx5 := hx4)
                | (have _q := hx3
                   go_at_call 123
                   refine (under_r _ _ _ JM.out).mono ?_
                   clear _q
                   rintro e wx3 ⟨vv, rfl, h9, k9⟩
                   obtain ⟨P6, p6, c6, rfl⟩ := h9.form'
                   have JU := Lib.hid h9
                   have hx4 := Lib.hid (ext_trans hx3.out k9)
                   clear h9 k9)
                | (have _q := hx2
                   go_at_call 30
                   refine (mul_n (2 * M + 400) (by have := HM.out; omega) _ _ m0 (tensQ 1 (c : Int)) _ (N5.out.mono hx2.out) JT.out BM.out ((BT.out _ HTC.out).mono (by omega))).mono ?_
                   clear _q
                   rintro e wx2 ⟨vv, rfl, h9, k9⟩
                   rw [tens_mul] at h9
                   obtain ⟨s6, A6, k6, c6, B6, l6, d6, h6e, -⟩ := h9.form
                   subst h6e
                   have JM := Lib.hid h9
                   have hx3 := Lib.hid (ext_trans hx2.out k9)
                   clear h9 k9)
                | (have _q := hx1
                   go_at_call 113
                   refine (ten_n (c : Int) (Nat.le_trans HTC.out (by decide)) _).mono ?_
                   clear _q
                   rintro e wx1 ⟨vv, rfl, h9, k9⟩
                   have JT := Lib.hid h9
                   have hx2 := Lib.hid (ext_trans hx1.out k9)
                   clear h9 k9))
            all_goals
              go_wp2_with fail
              go_meet
              exact ⟨by first | rfl | simp, hx5⟩
          case rest =>
            obtain ⟨rfl, HE2⟩ := hcut
            rename World => WS
            have w3 := W3_.out
            rcases bd with _ | _
            · go_wp2_with fail
              go_roundg (gk - 1)
              case measure => have := HZ0.out; omega
              case rel => exact ⟨c + 1, by have := HC.out; have := HZ0.out; omega, by go_num, pt_step HPT.out HC12.out (of_decide_eq_false HBD.out), HE2.out⟩
            · go_wp2_with fail
              go_meet
              exact ⟨c, rfl, ⟨HPT.out, fun _ => of_decide_eq_true HBD.out⟩, HE2.out⟩
    case rest =>
      obtain ⟨bn, rfl, HBN, hext⟩ := hcut
      rename World => W6
      have HE := Lib.hid hext
      have HB13 := Lib.hid (show bn ≤ 13 from HBN.out.1.1)
      have HTC := Lib.hid (show ((bn : Int)).natAbs ≤ 30 by have := HB13.out; omega)
      obtain ⟨mf, hmf⟩ : ∃ m, tensQ m0 (bn : Int) = m := ⟨_, rfl⟩
      have HMF := Lib.hid hmf
      have BF := Lib.hid (show Bq (2 * M + 800) mf by rw [← hmf]; exact (Bq.tens BM.out).mono (by have := HTC.out; omega))
      obtain ⟨ds, hds⟩ : ∃ d, Lib.decDigits mf.num.natAbs = d := ⟨_, rfl⟩
      have HDS := Lib.hid hds
      have HDL := Lib.hid (show ds.length ≤ 2 * M + 801 by rw [← hds]; exact dec_len_r BF.out.1)
      clear hext hmf hds
      have hS0 := HS5.out _ HE.out
      have hx1 := Lib.hid (ext_trans HE.out (ext_drew W6))
      go_upto_region 13 with (fail)
      go_cut [7] (fun v wx => v = .string ⟨ds.toArray⟩ ∧ Hid (Ext W5 wx))
      case first =>
        go_region_held3 (fun W => W.cell? ⟨g5, 0, none⟩ = some (.int .i64 s9) ∧ W.cell? ⟨g5, 1, none⟩ = some (.slice A9 k9' c9) ∧ W.cell? ⟨g5, 2, none⟩ = some (.slice B9 l9 d9))
          (first
            | exact HS5.out _ hx4.out
            | exact HS5.out _ hx3.out
            | exact HS5.out _ hx2.out
            | exact HS5.out _ hx1.out)
          (first
            | (have _q := hx3
               go_at_call 124
               refine (decimal_r (2 * M + 800) (by have := HM.out; omega) _ mf.num.natAbs _ (wr_txt JM.out) BF.out.1).mono ?_
               clear _q
               rintro e wx3 ⟨rfl, k9⟩
               have hx4 := Lib.hid (ext_trans hx3.out k9)
               clear k9)
            | (have _q := hx2
               go_at_call 30
               refine (mul_n (2 * M + 400) (by have := HM.out; omega) _ _ m0 (tensQ 1 (bn : Int)) _ (N5.out.mono hx2.out) JT.out BM.out ((BT.out _ HTC.out).mono (by omega))).mono ?_
               clear _q
               rintro e wx2 ⟨vv, rfl, h9, k9⟩
               rw [tens_mul, HMF.out] at h9
               obtain ⟨s6, A6, k6, c6, B6, l6, d6, h6e, -⟩ := h9.form
               subst h6e
               have hfl : ∀ W : World, (Instr.field 31 (.agg #[.int .i64 s6, .slice A6 k6 c6, .slice B6 l6 d6]) 1).run Tryz.prog W = .ok (.slice A6 k6 c6) W := fun _ => by kernel_rfl
               have JM := Lib.hid h9
               have hx3 := Lib.hid (ext_trans hx2.out k9)
               clear h9 k9)
            | (have _q := hx1
               go_at_call 113
               refine (ten_n (bn : Int) (Nat.le_trans HTC.out (by decide)) _).mono ?_
               clear _q
               rintro e wx1 ⟨vv, rfl, h9, k9⟩
               have JT := Lib.hid h9
               have hx2 := Lib.hid (ext_trans hx1.out k9)
               clear h9 k9))
        all_goals
          go_wp2_with fail
          go_meet
          exact ⟨by rw [← HDS.out], hx4⟩
      case rest =>
        obtain ⟨rfl, HE7⟩ := hcut
        rename World => W7
        go_upto_block 4 with (fail)
        go_cut [7] (fun v wx => ∃ ps : List UInt8, v = .string ⟨ps.toArray⟩ ∧ Hid (ps = padS bn ds ∧ ps.length ≤ 2 * M + 820 ∧ bn < ps.length) ∧ Ext W5 wx)
        case first =>
          go_wp2_with fail
          go_loopg [7] (bn + 1 - ds.length) (fun k v wr => ∃ l : List UInt8, v = .string ⟨l.toArray⟩ ∧ k = bn + 1 - l.length ∧ Hid (padS bn l = padS bn ds ∧ l.length ≤ 2 * M + 820 ∧ (l.length ≤ bn → l.length ≤ 13)) ∧ Ext W5 wr)
          case atStart => exact ⟨ds, rfl, rfl, ⟨rfl, by have := HDL.out; omega, by have := HB13.out; omega⟩, HE7.out⟩
          case round =>
            obtain ⟨lz, rfl, hk, HPD, hext⟩ := hrel
            have HE8 := Lib.hid hext
            have hszl : (⟨lz.toArray⟩ : ByteArray).size = lz.length := by simp [ByteArray.size]
            clear hext
            rcases Nat.eq_zero_or_pos gk with hz | hz
            · have t1 : decide ((lz.length : Int) ≤ (bn : Int)) = false := by rw [decide_eq_false_iff_not]; omega
              have t1' : decide (lz.length ≤ bn) = false := by rw [decide_eq_false_iff_not]; omega
              have HLB := Lib.hid (show bn < lz.length by omega)
              clear hk hz
              go_wp2_with fail
              go_meet
              exact ⟨lz, rfl, ⟨by rw [← HPD.out.1, pad_done HLB.out], HPD.out.2.1, HLB.out⟩, HE8.out⟩
            · have t1 : decide ((lz.length : Int) ≤ (bn : Int)) = true := by rw [decide_eq_true_eq]; omega
              have t1' : decide (lz.length ≤ bn) = true := by rw [decide_eq_true_eq]; omega
              have HLB := Lib.hid (show lz.length ≤ bn by omega)
              have HZ0 := Lib.hid hz
              have HK := Lib.hid hk
              have c1 : 1 + lz.length ≤ 9223372036854775807 := by have := HB13.out; omega
              have e5 : (⟨#[48]⟩ : ByteArray) ++ ⟨lz.toArray⟩ = ⟨(48 :: lz).toArray⟩ := str_append [48] lz
              clear hk hz
              go_wp2_with fail
              go_roundg (gk - 1)
              case measure => have := HZ0.out; omega
              case rel => exact ⟨48 :: lz, rfl, by rw [List.length_cons]; have := HK.out; omega, ⟨by rw [pad_step HLB.out]; exact HPD.out.1, by rw [List.length_cons]; have := HLB.out; have := HB13.out; omega, by rw [List.length_cons]; have := HLB.out; have := HB13.out; omega⟩, HE8.out⟩
        case rest =>
          obtain ⟨ps, rfl, HPS, hext⟩ := hcut
          rename World => W8
          have HE8 := Lib.hid hext
          have hszp : (⟨ps.toArray⟩ : ByteArray).size = ps.length := by simp [ByteArray.size]
          have KW := Lib.hid (ext_trans HWW.out (ext_trans X5.out hext))
          have X8 := Lib.hid (ext_trans X5.out hext)
          obtain ⟨r0, r1, r2⟩ := HS.out _ X8.out
          clear hext
          by_cases h13 : bn = 13
          · subst h13
            have HP := Lib.hid (HBN.out.1.2.2 rfl)
            have HTX := Lib.hid (show txt x = showS x from show_text H0.out HPC.out HM0.out HP.out.1 rfl rfl (.inl HP.out.2))
            go_wp2_with fail
            refine (text_r M (by have := HM.out; omega) _ x _ (Hx.out.mono X8.out) BX.out).mono ?_
            rintro e w9 ⟨rfl, k9⟩
            go_wp2_with fail
            go_ret
            exact ⟨by rw [HTX.out]; rfl, ext_trans KW.out k9⟩
          · have hb12 : bn ≤ 12 := by have := HB13.out; omega
            have HSZ := Lib.hid (show pointL 12 m0 0 = (mf, bn) by rw [← HMF.out]; exact pt_done HBN.out.1 hb12 (HBN.out.2 hb12))
            have HDN := Lib.hid (show mf.den = 1 by rw [← HMF.out]; exact HBN.out.2 hb12)
            have t0 : decide ((12 : Int) < (bn : Int)) = false := by rw [decide_eq_false_iff_not]; omega
            have t0' : decide (12 < bn) = false := by rw [decide_eq_false_iff_not]; omega
            have HPD := Lib.hid (show ps = padS bn ds from HPS.out.1)
            have HPL := Lib.hid (show bn < ps.length from HPS.out.2.2)
            rcases (show 400 < ps.length ∨ ps.length ≤ 400 by omega) with hl | hl
            · have t6 : decide ((400 : Int) < (ps.length : Int)) = true := by rw [decide_eq_true_eq]; omega
              have t6' : decide (400 < ps.length) = true := by rw [decide_eq_true_eq]; omega
              have HTX := Lib.hid (show txt x = showS x from show_text H0.out HPC.out HM0.out HSZ.out HDS.out.symm HPD.out (.inr hl))
              clear hl hb12 h13
              go_wp2_with fail
              refine (text_r M (by have := HM.out; omega) _ x _ (Hx.out.mono X8.out) BX.out).mono ?_
              rintro e w9 ⟨rfl, k9⟩
              go_wp2_with fail
              go_ret
              exact ⟨by rw [HTX.out]; rfl, ext_trans KW.out k9⟩
            · have t6 : decide ((400 : Int) < (ps.length : Int)) = false := by rw [decide_eq_false_iff_not]; omega
              have t6' : decide (400 < ps.length) = false := by rw [decide_eq_false_iff_not]; omega
              have HL := Lib.hid hl
              have hpl := HPL.out
              have hzc : at' < (⟨#[102, 112, 110, 117, 109, 32, 107, 77, 71, 84]⟩ : ByteArray).size := HAT.out
              have hge : (⟨#[102, 112, 110, 117, 109, 32, 107, 77, 71, 84]⟩ : ByteArray)[at']'hzc = ch := (pfxc_at at' hzc).trans HCH.out
              have w5 : IntKind.i64.wrap ((at' : Int) + 1) = ((at' + 1 : Nat) : Int) := (IntWalk.i64_in _ (by have := HAT.out; omega)).trans (by omega)
              have a1 : (at' : Int) ≤ 10 := by have := HAT.out; omega
              have a2 : ((at' + 1 : Nat) : Int) ≤ 10 := by have := HAT.out; omega
              have xc : (⟨#[102, 112, 110, 117, 109, 32, 107, 77, 71, 84]⟩ : ByteArray).extract at' (at' + 1) = ⟨#[ch]⟩ := by rw [ext1c at' HAT.out, HCH.out]
              rcases Nat.eq_zero_or_pos bn with hb0 | hb0
              · have HB0 := Lib.hid hb0
                have t7 : decide ((0 : Int) < (bn : Int)) = false := by rw [decide_eq_false_iff_not]; omega
                have t7' : decide (0 < bn) = false := by rw [decide_eq_false_iff_not]; omega
                have hrl : ps.length ≤ 401 := by omega
                clear hb0 hb12 h13
                rcases hb1 : b1 with _ | _
                · by_cases h32 : ch = 32
                  · have hsb : decide (s < 0) = false := HSB.out.trans hb1
                    have Hb := Lib.hid (show decide (x.num < 0) = false from Hbx.out.trans hb1)
                    have HCB := Lib.hid (show ch = 32 from h32)
                    have t9 : (((((⟨#[102, 112, 110, 117, 109, 32, 107, 77, 71, 84]⟩ : ByteArray)[at']'hzc).toNat : Nat) : Int) == 32) = true := by rw [hge]; exact byte_dec _ 32 true (by rw [h32]; rfl)
                    clear hrl hge h32 hb1 hpl hl
                    go_wp2_with fail
                    go_ret
                    refine ⟨?_, KW.out⟩
                    rw [show_short false (ps) H0.out HPC.out HM0.out HSZ.out HDS.out.symm HPD.out HDN.out HL.out Hb.out (if_neg (by have := HB0.out; omega))]
                    unfold pfxT; rw [if_pos HCB.out]
                    first | rfl | exact ret_s (by simp)
                  · have hsb : decide (s < 0) = false := HSB.out.trans hb1
                    have Hb := Lib.hid (show decide (x.num < 0) = false from Hbx.out.trans hb1)
                    have HCB := Lib.hid (show ¬ ch = 32 from h32)
                    have t9 : (((((⟨#[102, 112, 110, 117, 109, 32, 107, 77, 71, 84]⟩ : ByteArray)[at']'hzc).toNat : Nat) : Int) == 32) = false := by rw [hge]; exact byte_dec _ 32 false (by rw [beq_eq_false_iff_ne]; exact h32)
                    have c2 : (ps).length + 1 ≤ 9223372036854775807 := by omega
                    have e6 : (⟨(ps).toArray⟩ : ByteArray) ++ ⟨#[ch]⟩ = ⟨((ps) ++ [ch]).toArray⟩ := str_append _ [ch]
                    clear hrl hge h32 hb1 hpl hl
                    go_wp2_with fail
                    go_ret
                    refine ⟨?_, KW.out⟩
                    rw [show_short false (ps) H0.out HPC.out HM0.out HSZ.out HDS.out.symm HPD.out HDN.out HL.out Hb.out (if_neg (by have := HB0.out; omega))]
                    unfold pfxT; rw [if_neg HCB.out]
                    first | rfl | exact ret_s (by simp)
                · by_cases h32 : ch = 32
                  · have hsb : decide (s < 0) = true := HSB.out.trans hb1
                    have Hb := Lib.hid (show decide (x.num < 0) = true from Hbx.out.trans hb1)
                    have c1 : 1 + (ps).length ≤ 9223372036854775807 := by omega
                    have e5 : (⟨#[45]⟩ : ByteArray) ++ ⟨(ps).toArray⟩ = ⟨(45 :: (ps)).toArray⟩ := str_append [45] (ps)
                    have HCB := Lib.hid (show ch = 32 from h32)
                    have t9 : (((((⟨#[102, 112, 110, 117, 109, 32, 107, 77, 71, 84]⟩ : ByteArray)[at']'hzc).toNat : Nat) : Int) == 32) = true := by rw [hge]; exact byte_dec _ 32 true (by rw [h32]; rfl)
                    clear hrl hge h32 hb1 hpl hl
                    go_wp2_with fail
                    go_ret
                    refine ⟨?_, KW.out⟩
                    rw [show_short true (ps) H0.out HPC.out HM0.out HSZ.out HDS.out.symm HPD.out HDN.out HL.out Hb.out (if_neg (by have := HB0.out; omega))]
                    unfold pfxT; rw [if_pos HCB.out]
                    first | rfl | exact ret_s (by simp)
                  · have hsb : decide (s < 0) = true := HSB.out.trans hb1
                    have Hb := Lib.hid (show decide (x.num < 0) = true from Hbx.out.trans hb1)
                    have c1 : 1 + (ps).length ≤ 9223372036854775807 := by omega
                    have e5 : (⟨#[45]⟩ : ByteArray) ++ ⟨(ps).toArray⟩ = ⟨(45 :: (ps)).toArray⟩ := str_append [45] (ps)
                    have HCB := Lib.hid (show ¬ ch = 32 from h32)
                    have t9 : (((((⟨#[102, 112, 110, 117, 109, 32, 107, 77, 71, 84]⟩ : ByteArray)[at']'hzc).toNat : Nat) : Int) == 32) = false := by rw [hge]; exact byte_dec _ 32 false (by rw [beq_eq_false_iff_ne]; exact h32)
                    have c2 : (45 :: (ps)).length + 1 ≤ 9223372036854775807 := by have q : (45 :: (ps)).length = (ps).length + 1 := rfl; omega
                    have c3 : (ps).length + 1 + 1 ≤ 9223372036854775807 := by omega
                    have e6 : (⟨(45 :: (ps)).toArray⟩ : ByteArray) ++ ⟨#[ch]⟩ = ⟨((45 :: (ps)) ++ [ch]).toArray⟩ := str_append _ [ch]
                    clear hrl hge h32 hb1 hpl hl
                    go_wp2_with fail
                    go_ret
                    refine ⟨?_, KW.out⟩
                    rw [show_short true (ps) H0.out HPC.out HM0.out HSZ.out HDS.out.symm HPD.out HDN.out HL.out Hb.out (if_neg (by have := HB0.out; omega))]
                    unfold pfxT; rw [if_neg HCB.out]
                    first | rfl | exact ret_s (by simp)
              · have HB0 := Lib.hid hb0
                have t7 : decide ((0 : Int) < (bn : Int)) = true := by rw [decide_eq_true_eq]; omega
                have t7' : decide (0 < bn) = true := by rw [decide_eq_true_eq]; omega
                obtain ⟨pp, hpp⟩ : ∃ pp, pp = ps.length - bn := ⟨_, rfl⟩
                have HPP := Lib.hid hpp
                have u3 : IntKind.i64.wrap ((ps.length : Int) - (bn : Int)) = (pp : Int) := (IntWalk.i64_in _ (by omega)).trans (by omega)
                have x1 : (⟨ps.toArray⟩ : ByteArray).extract 0 pp = ⟨(ps.take pp).toArray⟩ := by apply ByteArray.ext; simp
                have x2 : (⟨ps.toArray⟩ : ByteArray).extract pp ps.length = ⟨(ps.drop pp).toArray⟩ := by apply ByteArray.ext; simp; exact List.take_of_length_le (by simp)
                have g1 : (0 : Int) ≤ (pp : Int) := by omega
                have g2 : (pp : Int) ≤ (ps.length : Int) := by omega
                have c4 : (ps.take pp).length + 1 ≤ 9223372036854775807 := by rw [List.length_take]; omega
                have e3 : (⟨(ps.take pp).toArray⟩ : ByteArray) ++ ⟨#[46]⟩ = ⟨(ps.take pp ++ [46]).toArray⟩ := str_append _ [46]
                have c5 : (ps.take pp ++ [46]).length + (ps.drop pp).length ≤ 9223372036854775807 := by simp; omega
                have e4 : (⟨(ps.take pp ++ [46]).toArray⟩ : ByteArray) ++ ⟨(ps.drop pp).toArray⟩ = ⟨(ps.take pp ++ 46 :: ps.drop pp).toArray⟩ := by rw [str_append]; simp
                have hrq : (ps.take pp ++ 46 :: ps.drop pp).length = ps.length + 1 := by simp; omega
                have hrl : (ps.take pp ++ 46 :: ps.drop pp).length ≤ 401 := by rw [hrq]; omega
                have HRL := Lib.hid hrl
                clear hpp hb0 hrl hb12 h13 hrq
                go_upto_region 19 with (fail)
                go_cut [7] (fun v wx => v = .string ⟨(ps.take pp ++ 46 :: ps.drop pp).toArray⟩ ∧ Hid (Ext W8 wx))
                case first =>
                  go_quiet (fail)
                  go_wp2_with fail
                  go_meet
                  exact ⟨rfl, ext_drewN _ _⟩
                case rest =>
                  obtain ⟨rfl, HE9⟩ := hcut
                  rename World => W9
                  have hrl := HRL.out
                  clear r0 r1 r2 x1 x2 e3 e4 c4 c5 g1 g2 u3
                  obtain ⟨r0, r1, r2⟩ := HS.out _ (ext_trans X8.out HE9.out)
                  generalize hrs : (ps.take pp ++ 46 :: ps.drop pp) = rsx at *
                  have HRS := Lib.hid hrs
                  clear hrs
                  rcases hb1 : b1 with _ | _
                  · by_cases h32 : ch = 32
                    · have hsb : decide (s < 0) = false := HSB.out.trans hb1
                      have Hb := Lib.hid (show decide (x.num < 0) = false from Hbx.out.trans hb1)
                      have HCB := Lib.hid (show ch = 32 from h32)
                      have t9 : (((((⟨#[102, 112, 110, 117, 109, 32, 107, 77, 71, 84]⟩ : ByteArray)[at']'hzc).toNat : Nat) : Int) == 32) = true := by rw [hge]; exact byte_dec _ 32 true (by rw [h32]; rfl)
                      clear hrl hge h32 hb1 hpl hl
                      go_wp2_with fail
                      go_ret
                      refine ⟨?_, ext_trans KW.out HE9.out⟩
                      rw [show_short false (rsx) H0.out HPC.out HM0.out HSZ.out HDS.out.symm HPD.out HDN.out HL.out Hb.out (by rw [if_pos HB0.out, ← HPP.out]; exact HRS.out)]
                      unfold pfxT; rw [if_pos HCB.out]
                      first | rfl | exact ret_s (by simp)
                    · have hsb : decide (s < 0) = false := HSB.out.trans hb1
                      have Hb := Lib.hid (show decide (x.num < 0) = false from Hbx.out.trans hb1)
                      have HCB := Lib.hid (show ¬ ch = 32 from h32)
                      have t9 : (((((⟨#[102, 112, 110, 117, 109, 32, 107, 77, 71, 84]⟩ : ByteArray)[at']'hzc).toNat : Nat) : Int) == 32) = false := by rw [hge]; exact byte_dec _ 32 false (by rw [beq_eq_false_iff_ne]; exact h32)
                      have c2 : (rsx).length + 1 ≤ 9223372036854775807 := by omega
                      have e6 : (⟨(rsx).toArray⟩ : ByteArray) ++ ⟨#[ch]⟩ = ⟨((rsx) ++ [ch]).toArray⟩ := str_append _ [ch]
                      clear hrl hge h32 hb1 hpl hl
                      go_wp2_with fail
                      go_ret
                      refine ⟨?_, ext_trans KW.out HE9.out⟩
                      rw [show_short false (rsx) H0.out HPC.out HM0.out HSZ.out HDS.out.symm HPD.out HDN.out HL.out Hb.out (by rw [if_pos HB0.out, ← HPP.out]; exact HRS.out)]
                      unfold pfxT; rw [if_neg HCB.out]
                      first | rfl | exact ret_s (by simp)
                  · by_cases h32 : ch = 32
                    · have hsb : decide (s < 0) = true := HSB.out.trans hb1
                      have Hb := Lib.hid (show decide (x.num < 0) = true from Hbx.out.trans hb1)
                      have c1 : 1 + (rsx).length ≤ 9223372036854775807 := by omega
                      have e5 : (⟨#[45]⟩ : ByteArray) ++ ⟨(rsx).toArray⟩ = ⟨(45 :: (rsx)).toArray⟩ := str_append [45] (rsx)
                      have HCB := Lib.hid (show ch = 32 from h32)
                      have t9 : (((((⟨#[102, 112, 110, 117, 109, 32, 107, 77, 71, 84]⟩ : ByteArray)[at']'hzc).toNat : Nat) : Int) == 32) = true := by rw [hge]; exact byte_dec _ 32 true (by rw [h32]; rfl)
                      clear hrl hge h32 hb1 hpl hl
                      go_wp2_with fail
                      go_ret
                      refine ⟨?_, ext_trans KW.out HE9.out⟩
                      rw [show_short true (rsx) H0.out HPC.out HM0.out HSZ.out HDS.out.symm HPD.out HDN.out HL.out Hb.out (by rw [if_pos HB0.out, ← HPP.out]; exact HRS.out)]
                      unfold pfxT; rw [if_pos HCB.out]
                      first | rfl | exact ret_s (by simp)
                    · have hsb : decide (s < 0) = true := HSB.out.trans hb1
                      have Hb := Lib.hid (show decide (x.num < 0) = true from Hbx.out.trans hb1)
                      have c1 : 1 + (rsx).length ≤ 9223372036854775807 := by omega
                      have e5 : (⟨#[45]⟩ : ByteArray) ++ ⟨(rsx).toArray⟩ = ⟨(45 :: (rsx)).toArray⟩ := str_append [45] (rsx)
                      have HCB := Lib.hid (show ¬ ch = 32 from h32)
                      have t9 : (((((⟨#[102, 112, 110, 117, 109, 32, 107, 77, 71, 84]⟩ : ByteArray)[at']'hzc).toNat : Nat) : Int) == 32) = false := by rw [hge]; exact byte_dec _ 32 false (by rw [beq_eq_false_iff_ne]; exact h32)
                      have c2 : (45 :: (rsx)).length + 1 ≤ 9223372036854775807 := by have q : (45 :: (rsx)).length = (rsx).length + 1 := rfl; omega
                      have c3 : (rsx).length + 1 + 1 ≤ 9223372036854775807 := by omega
                      have e6 : (⟨(45 :: (rsx)).toArray⟩ : ByteArray) ++ ⟨#[ch]⟩ = ⟨((45 :: (rsx)) ++ [ch]).toArray⟩ := str_append _ [ch]
                      clear hrl hge h32 hb1 hpl hl
                      go_wp2_with fail
                      go_ret
                      refine ⟨?_, ext_trans KW.out HE9.out⟩
                      rw [show_short true (rsx) H0.out HPC.out HM0.out HSZ.out HDS.out.symm HPD.out HDN.out HL.out Hb.out (by rw [if_pos HB0.out, ← HPP.out]; exact HRS.out)]
                      unfold pfxT; rw [if_neg HCB.out]
                      first | rfl | exact ret_s (by simp)
theorem show_n (M : Nat) (hM : M ≤ 1000000) (vx : Value) (x : Rat) (w : World) (hx : Nr w vx x) (bx : Bq M x) :
    Calls Tryz.prog 28 #[vx] w fun e w' => e = .returned (.string ⟨(showS x).toArray⟩) ∧ Ext w w' := by
  by_cases h0 : x = 0
  · subst h0; exact show_n_zero vx w hx
  · exact show_n_main M hM vx x w hx bx h0
end Go.Proofs.YtpgdefgdboijlaaGreatDoor
