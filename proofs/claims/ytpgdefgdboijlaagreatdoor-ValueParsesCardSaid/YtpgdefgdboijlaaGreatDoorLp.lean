/- The law of parsing: the walk. Printed by gen_lp.py. -/
import Derived.Test.YtpgdefgdboijlaaGreatDoorRo
import Derived.Test.YtpgdefgdboijlaaGreatDoorLs
import Derived.Test.YtpgdefgdboijlaaGreatDoorPT
import Derived.Test.YtpgdefgdboijlaaGreatDoorVd
import Derived.Deep.DeepCutAuto
import Derived.Deep.RegionHeld3
namespace Go.Proofs.YtpgdefgdboijlaaGreatDoor
open Go.RowKit
set_option linter.unusedVariables false
theorem parse_codes (l : List UInt8) : (parseS l).1 = 0 ∨ (parseS l).1 = 3 ∨ (parseS l).1 = 6 := by
  unfold parseS
  dsimp only
  repeat' split
  all_goals simp
theorem digits_e (M : Nat) (hM : M ≤ 1099511627776) (vx : Value) (x : Rat) (d : Int) (hd : d = max ((Lib.decDigits x.num.natAbs).length : Int) ((Lib.decDigits x.den).length : Int)) (w : World) (hx : Nm w vx x) (bx : Bq M x) (htab : Tens w) :
    Calls Tryz.prog 43 #[vx] w fun e w' => e = .returned (.int .i64 d) ∧ Ext w w' := by
  subst hd; exact digits_q M hM vx x w hx bx htab
theorem digits_er (M : Nat) (hM : M ≤ 1099511627776) (vx : Value) (x : Rat) (d : Int) (hd : d = max ((Lib.decDigits x.num.natAbs).length : Int) ((Lib.decDigits x.den).length : Int)) (w : World) (hx : Nr w vx x) (bx : Bq M x) :
    Calls Tryz.prog 44 #[vx] w fun e w' => e = .returned (.int .i64 d) ∧ Ext w w' := by
  subst hd; exact digits_n M hM vx x w hx bx
set_option maxRecDepth 100000 in
set_option maxHeartbeats 4000000 in
theorem parses_ok (l : List UInt8) (hs : l.length ≤ 9223372036854775807) (w : World) (ht : Tab w) (hK : (parseS l).1 = 0) :
    Calls Tryz.prog 7 #[.string ⟨l.toArray⟩] w fun e w' => e = .returned (.bool true) ∧ Ext w w' := by
  obtain ⟨q, hq⟩ : ∃ q, (parseS l).2 = q := ⟨_, rfl⟩
  have PP := Lib.hid (parse_c l hs)
  have PR := Lib.hid (parse_r l hs)
  have CH := Lib.hid (check_c l hs)
  have BQ := Lib.hid (show Bq 5000 q by rw [← hq]; exact (parse_small l).mono (by decide))
  have HM := Lib.hid (show 5000 ≤ 1099511627776 by decide)
  have HTL := Lib.hid (show txt q = l by rw [← hq]; exact txt_parse l hK)
  obtain ⟨d, hd⟩ : ∃ d : Int, d = max ((Lib.decDigits q.num.natAbs).length : Int) ((Lib.decDigits q.den).length : Int) := ⟨_, rfl⟩
  have HD := Lib.hid hd
  have HT := Lib.hid ht
  unfold ParseR at PP
  unfold ParseN at PR
  rw [hq, hK] at PP PR
  rw [hK] at CH
  clear hq hs ht hd hK
  go_enter Tryz.func7, Tryz.ntmps7
  go_wp2_with fail
  refine (PP.out _).mono ?_
  rintro e w1 ⟨v1, rfl, h1, k1⟩
  obtain ⟨b1, A, k, ca, B, l1, cb, rfl⟩ := h1.form2
  have H1 := Lib.hid h1
  have K1 := Lib.hid (ext_trans k1 (ext_alloc w1 (.cells #[.bool b1, .slice A k ca, .slice B l1 cb] 25)))
  clear h1 k1 PP
  go_wp2_with fail
  refine (PR.out _).mono ?_
  rintro e w2 ⟨v2, rfl, h2, k2⟩
  obtain ⟨s, C, m, cc, D, n, cd, rfl, -, -, -⟩ := h2.form
  have HE := Lib.hid (show Ext w (w2.alloc (.cells #[.int .i64 s, .slice C m cc, .slice D n cd] 31)) from ext_trans K1.out (ext_trans k2 (ext_alloc _ _)))
  have NX := Lib.hid (show Nm (w2.alloc (.cells #[.int .i64 s, .slice C m cc, .slice D n cd] 31)) (.agg #[.bool b1, .slice A k ca, .slice B l1 cb]) q from H1.out.mono (ext_trans (ext_alloc _ _) (ext_trans k2 (ext_alloc _ _))))
  have NY := Lib.hid (show Nr (w2.alloc (.cells #[.int .i64 s, .slice C m cc, .slice D n cd] 31)) (.agg #[.int .i64 s, .slice C m cc, .slice D n cd]) q from h2.mono (ext_alloc _ _))
  have HS := Lib.hid (show ∀ W : World, Ext (w2.alloc (.cells #[.int .i64 s, .slice C m cc, .slice D n cd] 31)) W → W.cell? ⟨w1.heap.size, 0, none⟩ = some (.bool b1) ∧ W.cell? ⟨w1.heap.size, 1, none⟩ = some (.slice A k ca) ∧ W.cell? ⟨w1.heap.size, 2, none⟩ = some (.slice B l1 cb) ∧ W.cell? ⟨w2.heap.size, 0, none⟩ = some (.int .i64 s) ∧ W.cell? ⟨w2.heap.size, 1, none⟩ = some (.slice C m cc) ∧ W.cell? ⟨w2.heap.size, 2, none⟩ = some (.slice D n cd) from fun W h => by
    obtain ⟨a, b, c, -⟩ := row3_0 (row3 (ext_trans k2 (ext_trans (ext_alloc _ _) h)))
    obtain ⟨a', b', c', -⟩ := rowR_0 (rowR h)
    exact ⟨a, b, c, a', b', c'⟩)
  have TB := Lib.hid (HT.out.mono HE.out)
  clear h2 k2 PR H1 K1 HT
  go_upto_region 3 with (fail)
  generalize World.alloc w2 (.cells #[.int .i64 s, .slice C m cc, .slice D n cd] _) = W2 at *
  generalize w1.heap.size = g0 at *
  generalize w2.heap.size = g1 at *
  have hS0 := HS.out _ (ext_refl W2)
  have hx1 := Lib.hid (ext_drew W2)
  go_region_held3 (fun W => W.cell? ⟨g0, 0, none⟩ = some (.bool b1) ∧ W.cell? ⟨g0, 1, none⟩ = some (.slice A k ca) ∧ W.cell? ⟨g0, 2, none⟩ = some (.slice B l1 cb) ∧ W.cell? ⟨g1, 0, none⟩ = some (.int .i64 s) ∧ W.cell? ⟨g1, 1, none⟩ = some (.slice C m cc) ∧ W.cell? ⟨g1, 2, none⟩ = some (.slice D n cd))
    (first
      | exact HS.out _ hx7.out
      | exact HS.out _ hx6.out
      | exact HS.out _ hx5.out
      | exact HS.out _ hx4.out
      | exact HS.out _ hx3.out
      | exact HS.out _ hx2.out
      | exact HS.out _ hx1.out)
    (first
      | (have _q := hx6
         go_at_call 19
         refine (awake_c _ (TB.out.mono hx6.out)).mono ?_
         clear _q
         rintro e wx ⟨rfl, k9⟩
         have hx7 := Lib.hid (ext_trans hx6.out k9)
         clear k9)
      | (have _q := hx5
         go_at_call 44
         refine (digits_er 5000 HM.out _ q d HD.out _ (NY.out.mono hx5.out) BQ.out).mono ?_
         clear _q
         rintro e wx ⟨rfl, k9⟩
         have hx6 := Lib.hid (ext_trans hx5.out k9)
         clear k9)
      | (have _q := hx4
         go_at_call 43
         refine (digits_e 5000 HM.out _ q d HD.out _ (NX.out.mono hx4.out) BQ.out (TB.out.mono hx4.out).2).mono ?_
         clear _q
         rintro e wx ⟨rfl, k9⟩
         have hx5 := Lib.hid (ext_trans hx4.out k9)
         clear k9)
      | (have _q := hx3
         go_at_call 42
         refine (text_lit 5000 HM.out _ q l HTL.out _ (NX.out.mono hx3.out) BQ.out (TB.out.mono hx3.out).2).mono ?_
         clear _q
         rintro e wx ⟨rfl, k9⟩
         have hx4 := Lib.hid (ext_trans hx3.out k9)
         clear k9)
      | (have _q := hx2
         go_at_call 18
         refine (same_c 5000 HM.out _ _ q _ (NX.out.mono hx2.out) (NY.out.mono hx2.out) BQ.out (TB.out.mono hx2.out).2).mono ?_
         clear _q
         rintro e wx ⟨rfl, k9⟩
         have hx3 := Lib.hid (ext_trans hx2.out k9)
         clear k9)
      | (have _q := hx1
         go_at_call 41
         refine (CH.out _).mono ?_
         clear _q
         rintro e wx ⟨rfl, k9⟩
         have hx2 := Lib.hid (ext_trans hx1.out k9)
         clear k9))
  all_goals
    go_wp2_with fail
    go_ret
    exact ⟨by simp, ext_trans HE.out hx7.out⟩
set_option maxRecDepth 100000 in
set_option maxHeartbeats 4000000 in
theorem parses_no3 (l : List UInt8) (hs : l.length ≤ 9223372036854775807) (w : World) (ht : Tab w) (hK : (parseS l).1 = 3) :
    Calls Tryz.prog 7 #[.string ⟨l.toArray⟩] w fun e w' => e = .returned (.bool true) ∧ Ext w w' := by
  obtain ⟨q, hq⟩ : ∃ q, (parseS l).2 = q := ⟨_, rfl⟩
  have PP := Lib.hid (parse_c l hs)
  have PR := Lib.hid (parse_r l hs)
  have CH := Lib.hid (check_c l hs)
  have BQ := Lib.hid (show Bq 5000 q by rw [← hq]; exact (parse_small l).mono (by decide))
  have HM := Lib.hid (show 5000 ≤ 1099511627776 by decide)
  obtain ⟨d, hd⟩ : ∃ d : Int, d = max ((Lib.decDigits q.num.natAbs).length : Int) ((Lib.decDigits q.den).length : Int) := ⟨_, rfl⟩
  have HD := Lib.hid hd
  have HT := Lib.hid ht
  unfold ParseR at PP
  unfold ParseN at PR
  rw [hq, hK] at PP PR
  rw [hK] at CH
  clear hq hs ht hd hK
  go_enter Tryz.func7, Tryz.ntmps7
  go_wp2_with fail
  refine (PP.out _).mono ?_
  rintro e w1 ⟨v1, rfl, h1, k1⟩
  obtain ⟨b1, A, k, ca, B, l1, cb, rfl⟩ := h1.form2
  have H1 := Lib.hid h1
  have K1 := Lib.hid (ext_trans k1 (ext_alloc w1 (.cells #[.bool b1, .slice A k ca, .slice B l1 cb] 25)))
  clear h1 k1 PP
  go_wp2_with fail
  refine (PR.out _).mono ?_
  rintro e w2 ⟨v2, rfl, h2, k2⟩
  obtain ⟨s, C, m, cc, D, n, cd, rfl, -, -, -⟩ := h2.form
  have HE := Lib.hid (show Ext w (w2.alloc (.cells #[.int .i64 s, .slice C m cc, .slice D n cd] 31)) from ext_trans K1.out (ext_trans k2 (ext_alloc _ _)))
  have NX := Lib.hid (show Nm (w2.alloc (.cells #[.int .i64 s, .slice C m cc, .slice D n cd] 31)) (.agg #[.bool b1, .slice A k ca, .slice B l1 cb]) q from H1.out.mono (ext_trans (ext_alloc _ _) (ext_trans k2 (ext_alloc _ _))))
  have NY := Lib.hid (show Nr (w2.alloc (.cells #[.int .i64 s, .slice C m cc, .slice D n cd] 31)) (.agg #[.int .i64 s, .slice C m cc, .slice D n cd]) q from h2.mono (ext_alloc _ _))
  have HS := Lib.hid (show ∀ W : World, Ext (w2.alloc (.cells #[.int .i64 s, .slice C m cc, .slice D n cd] 31)) W → W.cell? ⟨w1.heap.size, 0, none⟩ = some (.bool b1) ∧ W.cell? ⟨w1.heap.size, 1, none⟩ = some (.slice A k ca) ∧ W.cell? ⟨w1.heap.size, 2, none⟩ = some (.slice B l1 cb) ∧ W.cell? ⟨w2.heap.size, 0, none⟩ = some (.int .i64 s) ∧ W.cell? ⟨w2.heap.size, 1, none⟩ = some (.slice C m cc) ∧ W.cell? ⟨w2.heap.size, 2, none⟩ = some (.slice D n cd) from fun W h => by
    obtain ⟨a, b, c, -⟩ := row3_0 (row3 (ext_trans k2 (ext_trans (ext_alloc _ _) h)))
    obtain ⟨a', b', c', -⟩ := rowR_0 (rowR h)
    exact ⟨a, b, c, a', b', c'⟩)
  have TB := Lib.hid (HT.out.mono HE.out)
  clear h2 k2 PR H1 K1 HT
  go_upto_region 3 with (fail)
  generalize World.alloc w2 (.cells #[.int .i64 s, .slice C m cc, .slice D n cd] _) = W2 at *
  generalize w1.heap.size = g0 at *
  generalize w2.heap.size = g1 at *
  have hS0 := HS.out _ (ext_refl W2)
  have hx1 := Lib.hid (ext_drew W2)
  have hun : undef = .tuple #[] := rfl
  refine wp_region_noPanic ?_
  refine wp_region_held_drew (S := fun W => W.cell? ⟨g0, 0, none⟩ = some (.bool b1) ∧ W.cell? ⟨g0, 1, none⟩ = some (.slice A k ca) ∧ W.cell? ⟨g0, 2, none⟩ = some (.slice B l1 cb) ∧ W.cell? ⟨g1, 0, none⟩ = some (.int .i64 s) ∧ W.cell? ⟨g1, 1, none⟩ = some (.slice C m cc) ∧ W.cell? ⟨g1, 2, none⟩ = some (.slice D n cd)) (by kernel_rfl) (HS.out _ hx1.out) (fun hHeld => ?_)
  refine take_w (i := 0) 17 (v := ?vv1_0) rfl rfl (by kernel_rfl) (by kernel_rfl) (by kernel_rfl) (fun _ _ _ h => h) (Or.inl ⟨rfl, ?hy1_0⟩) (by assumption) ?rr1_0
  case hy1_0 => (intro w hSw; (try dsimp only at hSw); go_simp; try with_reducible rfl)
  try simp only [Act.put, List.setIfInBounds_toArray, List.set_cons_zero, List.set_cons_succ]
  refine take_w (i := 1) 18 (v := ?vv1_1) rfl rfl (by kernel_rfl) (by kernel_rfl) (by kernel_rfl) (fun _ _ _ h => h) (Or.inl ⟨rfl, ?hy1_1⟩) (by assumption) ?rr1_1
  case hy1_1 => (intro w hSw; (try dsimp only at hSw); go_simp; try with_reducible rfl)
  try simp only [Act.put, List.setIfInBounds_toArray, List.set_cons_zero, List.set_cons_succ]
  refine take_w (i := 2) 19 (v := ?vv1_2) rfl rfl (by kernel_rfl) (by kernel_rfl) (by kernel_rfl) (fun _ _ _ h => h) (Or.inl ⟨rfl, ?hy1_2⟩) (by assumption) ?rr1_2
  case hy1_2 => (intro w hSw; (try dsimp only at hSw); go_simp; try with_reducible rfl)
  try simp only [Act.put, List.setIfInBounds_toArray, List.set_cons_zero, List.set_cons_succ]
  refine take_w (i := 3) 20 (v := ?vv1_3) rfl rfl (by kernel_rfl) (by kernel_rfl) (by kernel_rfl) (fun _ _ _ h => h) (Or.inl ⟨rfl, ?hy1_3⟩) (by assumption) ?rr1_3
  case hy1_3 => (intro w hSw; (try dsimp only at hSw); go_simp; try with_reducible rfl)
  try simp only [Act.put, List.setIfInBounds_toArray, List.set_cons_zero, List.set_cons_succ]
  refine take_w (i := 4) 21 (v := ?vv1_4) rfl rfl (by kernel_rfl) (by kernel_rfl) (by kernel_rfl) (fun _ _ _ h => h) (Or.inl ⟨rfl, ?hy1_4⟩) (by assumption) ?rr1_4
  case hy1_4 => (intro w hSw; (try dsimp only at hSw); go_simp; try with_reducible rfl)
  try simp only [Act.put, List.setIfInBounds_toArray, List.set_cons_zero, List.set_cons_succ]
  refine take_w (i := 6) 23 (v := ?vv1_6) rfl rfl (by kernel_rfl) (by kernel_rfl) (by kernel_rfl) (fun _ _ _ h => h) (Or.inl ⟨rfl, ?hy1_6⟩) (by assumption) ?rr1_6
  case hy1_6 => (intro w hSw; (try dsimp only at hSw); go_simp; try with_reducible rfl)
  try simp only [Act.put, List.setIfInBounds_toArray, List.set_cons_zero, List.set_cons_succ]
  refine call_w (i := 5) 22 rfl rfl (by kernel_rfl) (fun K hK => ?_)
  go_simp
  go_at_call 41
  refine (CH.out _).mono ?_
  rintro e wx5 ⟨rfl, k9⟩
  have hx2 := Lib.hid (show Ext W2 wx5 from ext_trans hx1.out k9)
  clear k9
  try go_wp2_with fail
  refine hK.out _ _ (HS.out _ hx2.out) (fun hHeld => ?_)
  clear hK K
  try simp only [Act.put, List.setIfInBounds_toArray, List.set_cons_zero, List.set_cons_succ]
  refine take_w (i := 7) 24 (v := ?vv1_7) rfl rfl (by kernel_rfl) (by kernel_rfl) (by kernel_rfl) (fun _ _ _ h => h) (Or.inl ⟨rfl, ?hy1_7⟩) (by assumption) ?rr1_7
  case hy1_7 => (intro w hSw; (try dsimp only at hSw); go_simp; try with_reducible rfl)
  try simp only [Act.put, List.setIfInBounds_toArray, List.set_cons_zero, List.set_cons_succ]
  refine take_w (i := 8) 25 (v := ?vv1_8) rfl rfl (by kernel_rfl) (by kernel_rfl) (by kernel_rfl) (fun _ _ _ h => h) (Or.inl ⟨rfl, ?hy1_8⟩) (by assumption) ?rr1_8
  case hy1_8 => (intro w hSw; (try dsimp only at hSw); go_simp; try with_reducible rfl)
  try simp only [Act.put, List.setIfInBounds_toArray, List.set_cons_zero, List.set_cons_succ]
  refine take_w (i := 9) 26 (v := ?vv1_9) rfl rfl (by kernel_rfl) (by kernel_rfl) (by kernel_rfl) (fun _ _ _ h => h) (Or.inl ⟨rfl, ?hy1_9⟩) (by assumption) ?rr1_9
  case hy1_9 => (intro w hSw; (try dsimp only at hSw); go_simp; try with_reducible rfl)
  try simp only [Act.put, List.setIfInBounds_toArray, List.set_cons_zero, List.set_cons_succ]
  refine take_w (i := 10) 27 (v := ?vv1_10) rfl rfl (by kernel_rfl) (by kernel_rfl) (by kernel_rfl) (fun _ _ _ h => h) (Or.inl ⟨rfl, ?hy1_10⟩) (by assumption) ?rr1_10
  case hy1_10 => (intro w hSw; (try dsimp only at hSw); go_simp; try with_reducible rfl)
  try simp only [Act.put, List.setIfInBounds_toArray, List.set_cons_zero, List.set_cons_succ]
  refine take_w (i := 11) 28 (v := ?vv1_11) rfl rfl (by kernel_rfl) (by kernel_rfl) (by kernel_rfl) (fun _ _ _ h => h) (Or.inl ⟨rfl, ?hy1_11⟩) (by assumption) ?rr1_11
  case hy1_11 => (intro w hSw; (try dsimp only at hSw); go_simp; try with_reducible rfl)
  try simp only [Act.put, List.setIfInBounds_toArray, List.set_cons_zero, List.set_cons_succ]
  refine call_w (i := 12) 29 rfl rfl (by kernel_rfl) (fun K hK => ?_)
  go_simp
  go_at_call 18
  refine (same_c 5000 HM.out _ _ q _ (NX.out.mono hx2.out) (NY.out.mono hx2.out) BQ.out (TB.out.mono hx2.out).2).mono ?_
  rintro e wx12 ⟨rfl, k9⟩
  have hx3 := Lib.hid (show Ext W2 wx12 from ext_trans hx2.out k9)
  clear k9
  try go_wp2_with fail
  refine hK.out _ _ (HS.out _ hx3.out) (fun hHeld => ?_)
  clear hK K
  try simp only [Act.put, List.setIfInBounds_toArray, List.set_cons_zero, List.set_cons_succ]
  refine take_w (i := 13) 30 (v := ?vv1_13) rfl rfl (by kernel_rfl) (by kernel_rfl) (by kernel_rfl) (fun _ _ _ h => h) (Or.inl ⟨rfl, ?hy1_13⟩) (by assumption) ?rr1_13
  case hy1_13 => (intro w hSw; (try dsimp only at hSw); go_simp; try with_reducible rfl)
  try simp only [Act.put, List.setIfInBounds_toArray, List.set_cons_zero, List.set_cons_succ]
  refine take_w (i := 14) 31 (v := ?vv1_14) rfl rfl (by kernel_rfl) (by kernel_rfl) (by kernel_rfl) (fun _ _ _ h => h) (Or.inl ⟨rfl, ?hy1_14⟩) (by assumption) ?rr1_14
  case hy1_14 => (intro w hSw; (try dsimp only at hSw); go_simp; try with_reducible rfl)
  try simp only [Act.put, List.setIfInBounds_toArray, List.set_cons_zero, List.set_cons_succ]
  refine take_w (i := 15) 32 (v := ?vv1_15) rfl rfl (by kernel_rfl) (by kernel_rfl) (by kernel_rfl) (fun _ _ _ h => h) (Or.inl ⟨rfl, ?hy1_15⟩) (by assumption) ?rr1_15
  case hy1_15 => (intro w hSw; (try dsimp only at hSw); go_simp; try with_reducible rfl)
  try simp only [Act.put, List.setIfInBounds_toArray, List.set_cons_zero, List.set_cons_succ]
  refine take_w (i := 16) 33 (v := ?vv1_16) rfl rfl (by kernel_rfl) (by kernel_rfl) (by kernel_rfl) (fun _ _ _ h => h) (Or.inl ⟨rfl, ?hy1_16⟩) (by assumption) ?rr1_16
  case hy1_16 => (intro w hSw; (try dsimp only at hSw); go_simp; try with_reducible rfl)
  try simp only [Act.put, List.setIfInBounds_toArray, List.set_cons_zero, List.set_cons_succ]
  refine take_w (i := 17) 34 (v := ?vv1_17) rfl rfl (by kernel_rfl) (by kernel_rfl) (by kernel_rfl) (fun _ _ _ h => h) (Or.inl ⟨rfl, ?hy1_17⟩) (by assumption) ?rr1_17
  case hy1_17 => (intro w hSw; (try dsimp only at hSw); go_simp; try with_reducible rfl)
  try simp only [Act.put, List.setIfInBounds_toArray, List.set_cons_zero, List.set_cons_succ]
  refine take_w (i := 18) 35 (v := undef) rfl rfl (by kernel_rfl) (by kernel_rfl) (by kernel_rfl) (fun _ _ _ h => h) (Or.inr ⟨rfl, rfl⟩) (by assumption) ?_
  try simp only [Act.put, List.setIfInBounds_toArray, List.set_cons_zero, List.set_cons_succ]
  refine take_w (i := 20) 37 (v := undef) rfl rfl (by kernel_rfl) (by kernel_rfl) (by kernel_rfl) (fun _ _ _ h => h) (Or.inr ⟨rfl, rfl⟩) (by assumption) ?_
  try simp only [Act.put, List.setIfInBounds_toArray, List.set_cons_zero, List.set_cons_succ]
  refine call_w (i := 19) 36 rfl rfl (by kernel_rfl) (fun K hK => ?_)
  rw [if_neg (by exact Bool.false_ne_true)]
  refine hK.out _ _ (by assumption) (fun hHeld => ?_)
  clear hK K
  try simp only [Act.put, List.setIfInBounds_toArray, List.set_cons_zero, List.set_cons_succ]
  refine take_w (i := 21) 38 (v := undef) rfl rfl (by kernel_rfl) (by kernel_rfl) (by kernel_rfl) (fun _ _ _ h => h) (Or.inr ⟨rfl, rfl⟩) (by assumption) ?_
  try simp only [Act.put, List.setIfInBounds_toArray, List.set_cons_zero, List.set_cons_succ]
  refine take_w (i := 22) 39 (v := ?vv1_22) rfl rfl (by kernel_rfl) (by kernel_rfl) (by kernel_rfl) (fun _ _ _ h => h) (Or.inl ⟨rfl, ?hy1_22⟩) (by assumption) ?rr1_22
  case hy1_22 => (intro w hSw; (try dsimp only at hSw); go_simp; try with_reducible rfl)
  try simp only [Act.put, List.setIfInBounds_toArray, List.set_cons_zero, List.set_cons_succ]
  refine take_w (i := 23) 40 (v := ?vv1_23) rfl rfl (by kernel_rfl) (by kernel_rfl) (by kernel_rfl) (fun _ _ _ h => h) (Or.inl ⟨rfl, ?hy1_23⟩) (by assumption) ?rr1_23
  case hy1_23 => (intro w hSw; (try dsimp only at hSw); go_simp; try with_reducible rfl)
  try simp only [Act.put, List.setIfInBounds_toArray, List.set_cons_zero, List.set_cons_succ]
  refine take_w (i := 24) 41 (v := ?vv1_24) rfl rfl (by kernel_rfl) (by kernel_rfl) (by kernel_rfl) (fun _ _ _ h => h) (Or.inl ⟨rfl, ?hy1_24⟩) (by assumption) ?rr1_24
  case hy1_24 => (intro w hSw; (try dsimp only at hSw); go_simp; try with_reducible rfl)
  try simp only [Act.put, List.setIfInBounds_toArray, List.set_cons_zero, List.set_cons_succ]
  refine take_w (i := 25) 42 (v := ?vv1_25) rfl rfl (by kernel_rfl) (by kernel_rfl) (by kernel_rfl) (fun _ _ _ h => h) (Or.inl ⟨rfl, ?hy1_25⟩) (by assumption) ?rr1_25
  case hy1_25 => (intro w hSw; (try dsimp only at hSw); go_simp; try with_reducible rfl)
  try simp only [Act.put, List.setIfInBounds_toArray, List.set_cons_zero, List.set_cons_succ]
  refine take_w (i := 27) 44 (v := ?vv1_27) rfl rfl (by kernel_rfl) (by kernel_rfl) (by kernel_rfl) (fun _ _ _ h => h) (Or.inl ⟨rfl, ?hy1_27⟩) (by assumption) ?rr1_27
  case hy1_27 => (intro w hSw; (try dsimp only at hSw); go_simp; try with_reducible rfl)
  try simp only [Act.put, List.setIfInBounds_toArray, List.set_cons_zero, List.set_cons_succ]
  refine call_w (i := 26) 43 rfl rfl (by kernel_rfl) (fun K hK => ?_)
  go_simp
  go_at_call 43
  refine (digits_e 5000 HM.out _ q d HD.out _ (NX.out.mono hx3.out) BQ.out (TB.out.mono hx3.out).2).mono ?_
  rintro e wx26 ⟨rfl, k9⟩
  have hx4 := Lib.hid (show Ext W2 wx26 from ext_trans hx3.out k9)
  clear k9
  try go_wp2_with fail
  refine hK.out _ _ (HS.out _ hx4.out) (fun hHeld => ?_)
  clear hK K
  try simp only [Act.put, List.setIfInBounds_toArray, List.set_cons_zero, List.set_cons_succ]
  refine call_w (i := 28) 45 rfl rfl (by kernel_rfl) (fun K hK => ?_)
  go_simp
  go_at_call 44
  refine (digits_er 5000 HM.out _ q d HD.out _ (NY.out.mono hx4.out) BQ.out).mono ?_
  rintro e wx28 ⟨rfl, k9⟩
  have hx5 := Lib.hid (show Ext W2 wx28 from ext_trans hx4.out k9)
  clear k9
  try go_wp2_with fail
  refine hK.out _ _ (HS.out _ hx5.out) (fun hHeld => ?_)
  clear hK K
  try simp only [Act.put, List.setIfInBounds_toArray, List.set_cons_zero, List.set_cons_succ]
  refine take_w (i := 29) 46 (v := ?vv1_29) rfl rfl (by kernel_rfl) (by kernel_rfl) (by kernel_rfl) (fun _ _ _ h => h) (Or.inl ⟨rfl, ?hy1_29⟩) (by assumption) ?rr1_29
  case hy1_29 => (intro w hSw; (try dsimp only at hSw); go_simp; try with_reducible rfl)
  try simp only [Act.put, List.setIfInBounds_toArray, List.set_cons_zero, List.set_cons_succ]
  refine take_w (i := 30) 47 (v := ?vv1_30) rfl rfl (by kernel_rfl) (by kernel_rfl) (by kernel_rfl) (fun _ _ _ h => h) (Or.inl ⟨rfl, ?hy1_30⟩) (by assumption) ?rr1_30
  case hy1_30 => (intro w hSw; (try dsimp only at hSw); go_simp; try with_reducible rfl)
  try simp only [Act.put, List.setIfInBounds_toArray, List.set_cons_zero, List.set_cons_succ]
  refine take_w (i := 31) 48 (v := ?vv1_31) rfl rfl (by kernel_rfl) (by kernel_rfl) (by kernel_rfl) (fun _ _ _ h => h) (Or.inl ⟨rfl, ?hy1_31⟩) (by assumption) ?rr1_31
  case hy1_31 => (intro w hSw; (try dsimp only at hSw); go_simp; try with_reducible rfl)
  try simp only [Act.put, List.setIfInBounds_toArray, List.set_cons_zero, List.set_cons_succ]
  refine call_w (i := 32) 49 rfl rfl (by kernel_rfl) (fun K hK => ?_)
  go_simp
  go_at_call 19
  refine (awake_c _ (TB.out.mono hx5.out)).mono ?_
  rintro e wx32 ⟨rfl, k9⟩
  have hx6 := Lib.hid (show Ext W2 wx32 from ext_trans hx5.out k9)
  clear k9
  try go_wp2_with fail
  refine hK.out _ _ (HS.out _ hx6.out) (fun hHeld => ?_)
  clear hK K
  try simp only [Act.put, List.setIfInBounds_toArray, List.set_cons_zero, List.set_cons_succ]
  refine take_w (i := 33) 50 (v := ?vv1_33) rfl rfl (by kernel_rfl) (by kernel_rfl) (by kernel_rfl) (fun _ _ _ h => h) (Or.inl ⟨rfl, ?hy1_33⟩) (by assumption) ?rr1_33
  case hy1_33 => (intro w hSw; (try dsimp only at hSw); go_simp; try with_reducible rfl)
  try simp only [Act.put, List.setIfInBounds_toArray, List.set_cons_zero, List.set_cons_succ]
  refine take_w (i := 34) 2 (v := ?vv1_34) rfl rfl (by kernel_rfl) (by kernel_rfl) (by kernel_rfl) (fun _ _ _ h => h) (Or.inl ⟨rfl, ?hy1_34⟩) (by assumption) ?rr1_34
  case hy1_34 => (intro w hSw; (try dsimp only at hSw); go_simp; try with_reducible rfl)
  try simp only [Act.put, List.setIfInBounds_toArray, List.set_cons_zero, List.set_cons_succ]
  refine wpAnyH_done (by kernel_rfl) ?_ _
  refine NoPanic.normal ?_
  go_wp2_with fail
  go_ret
  exact ⟨by simp, ext_trans HE.out hx6.out⟩
set_option maxRecDepth 100000 in
set_option maxHeartbeats 4000000 in
theorem parses_no6 (l : List UInt8) (hs : l.length ≤ 9223372036854775807) (w : World) (ht : Tab w) (hK : (parseS l).1 = 6) :
    Calls Tryz.prog 7 #[.string ⟨l.toArray⟩] w fun e w' => e = .returned (.bool true) ∧ Ext w w' := by
  obtain ⟨q, hq⟩ : ∃ q, (parseS l).2 = q := ⟨_, rfl⟩
  have PP := Lib.hid (parse_c l hs)
  have PR := Lib.hid (parse_r l hs)
  have CH := Lib.hid (check_c l hs)
  have BQ := Lib.hid (show Bq 5000 q by rw [← hq]; exact (parse_small l).mono (by decide))
  have HM := Lib.hid (show 5000 ≤ 1099511627776 by decide)
  obtain ⟨d, hd⟩ : ∃ d : Int, d = max ((Lib.decDigits q.num.natAbs).length : Int) ((Lib.decDigits q.den).length : Int) := ⟨_, rfl⟩
  have HD := Lib.hid hd
  have HT := Lib.hid ht
  unfold ParseR at PP
  unfold ParseN at PR
  rw [hq, hK] at PP PR
  rw [hK] at CH
  clear hq hs ht hd hK
  go_enter Tryz.func7, Tryz.ntmps7
  go_wp2_with fail
  refine (PP.out _).mono ?_
  rintro e w1 ⟨v1, rfl, h1, k1⟩
  obtain ⟨b1, A, k, ca, B, l1, cb, rfl⟩ := h1.form2
  have H1 := Lib.hid h1
  have K1 := Lib.hid (ext_trans k1 (ext_alloc w1 (.cells #[.bool b1, .slice A k ca, .slice B l1 cb] 25)))
  clear h1 k1 PP
  go_wp2_with fail
  refine (PR.out _).mono ?_
  rintro e w2 ⟨v2, rfl, h2, k2⟩
  obtain ⟨s, C, m, cc, D, n, cd, rfl, -, -, -⟩ := h2.form
  have HE := Lib.hid (show Ext w (w2.alloc (.cells #[.int .i64 s, .slice C m cc, .slice D n cd] 31)) from ext_trans K1.out (ext_trans k2 (ext_alloc _ _)))
  have NX := Lib.hid (show Nm (w2.alloc (.cells #[.int .i64 s, .slice C m cc, .slice D n cd] 31)) (.agg #[.bool b1, .slice A k ca, .slice B l1 cb]) q from H1.out.mono (ext_trans (ext_alloc _ _) (ext_trans k2 (ext_alloc _ _))))
  have NY := Lib.hid (show Nr (w2.alloc (.cells #[.int .i64 s, .slice C m cc, .slice D n cd] 31)) (.agg #[.int .i64 s, .slice C m cc, .slice D n cd]) q from h2.mono (ext_alloc _ _))
  have HS := Lib.hid (show ∀ W : World, Ext (w2.alloc (.cells #[.int .i64 s, .slice C m cc, .slice D n cd] 31)) W → W.cell? ⟨w1.heap.size, 0, none⟩ = some (.bool b1) ∧ W.cell? ⟨w1.heap.size, 1, none⟩ = some (.slice A k ca) ∧ W.cell? ⟨w1.heap.size, 2, none⟩ = some (.slice B l1 cb) ∧ W.cell? ⟨w2.heap.size, 0, none⟩ = some (.int .i64 s) ∧ W.cell? ⟨w2.heap.size, 1, none⟩ = some (.slice C m cc) ∧ W.cell? ⟨w2.heap.size, 2, none⟩ = some (.slice D n cd) from fun W h => by
    obtain ⟨a, b, c, -⟩ := row3_0 (row3 (ext_trans k2 (ext_trans (ext_alloc _ _) h)))
    obtain ⟨a', b', c', -⟩ := rowR_0 (rowR h)
    exact ⟨a, b, c, a', b', c'⟩)
  have TB := Lib.hid (HT.out.mono HE.out)
  clear h2 k2 PR H1 K1 HT
  go_upto_region 3 with (fail)
  generalize World.alloc w2 (.cells #[.int .i64 s, .slice C m cc, .slice D n cd] _) = W2 at *
  generalize w1.heap.size = g0 at *
  generalize w2.heap.size = g1 at *
  have hS0 := HS.out _ (ext_refl W2)
  have hx1 := Lib.hid (ext_drew W2)
  have hun : undef = .tuple #[] := rfl
  refine wp_region_noPanic ?_
  refine wp_region_held_drew (S := fun W => W.cell? ⟨g0, 0, none⟩ = some (.bool b1) ∧ W.cell? ⟨g0, 1, none⟩ = some (.slice A k ca) ∧ W.cell? ⟨g0, 2, none⟩ = some (.slice B l1 cb) ∧ W.cell? ⟨g1, 0, none⟩ = some (.int .i64 s) ∧ W.cell? ⟨g1, 1, none⟩ = some (.slice C m cc) ∧ W.cell? ⟨g1, 2, none⟩ = some (.slice D n cd)) (by kernel_rfl) (HS.out _ hx1.out) (fun hHeld => ?_)
  refine take_w (i := 0) 17 (v := ?vv2_0) rfl rfl (by kernel_rfl) (by kernel_rfl) (by kernel_rfl) (fun _ _ _ h => h) (Or.inl ⟨rfl, ?hy2_0⟩) (by assumption) ?rr2_0
  case hy2_0 => (intro w hSw; (try dsimp only at hSw); go_simp; try with_reducible rfl)
  try simp only [Act.put, List.setIfInBounds_toArray, List.set_cons_zero, List.set_cons_succ]
  refine take_w (i := 1) 18 (v := ?vv2_1) rfl rfl (by kernel_rfl) (by kernel_rfl) (by kernel_rfl) (fun _ _ _ h => h) (Or.inl ⟨rfl, ?hy2_1⟩) (by assumption) ?rr2_1
  case hy2_1 => (intro w hSw; (try dsimp only at hSw); go_simp; try with_reducible rfl)
  try simp only [Act.put, List.setIfInBounds_toArray, List.set_cons_zero, List.set_cons_succ]
  refine take_w (i := 2) 19 (v := ?vv2_2) rfl rfl (by kernel_rfl) (by kernel_rfl) (by kernel_rfl) (fun _ _ _ h => h) (Or.inl ⟨rfl, ?hy2_2⟩) (by assumption) ?rr2_2
  case hy2_2 => (intro w hSw; (try dsimp only at hSw); go_simp; try with_reducible rfl)
  try simp only [Act.put, List.setIfInBounds_toArray, List.set_cons_zero, List.set_cons_succ]
  refine take_w (i := 3) 20 (v := ?vv2_3) rfl rfl (by kernel_rfl) (by kernel_rfl) (by kernel_rfl) (fun _ _ _ h => h) (Or.inl ⟨rfl, ?hy2_3⟩) (by assumption) ?rr2_3
  case hy2_3 => (intro w hSw; (try dsimp only at hSw); go_simp; try with_reducible rfl)
  try simp only [Act.put, List.setIfInBounds_toArray, List.set_cons_zero, List.set_cons_succ]
  refine take_w (i := 4) 21 (v := ?vv2_4) rfl rfl (by kernel_rfl) (by kernel_rfl) (by kernel_rfl) (fun _ _ _ h => h) (Or.inl ⟨rfl, ?hy2_4⟩) (by assumption) ?rr2_4
  case hy2_4 => (intro w hSw; (try dsimp only at hSw); go_simp; try with_reducible rfl)
  try simp only [Act.put, List.setIfInBounds_toArray, List.set_cons_zero, List.set_cons_succ]
  refine take_w (i := 6) 23 (v := ?vv2_6) rfl rfl (by kernel_rfl) (by kernel_rfl) (by kernel_rfl) (fun _ _ _ h => h) (Or.inl ⟨rfl, ?hy2_6⟩) (by assumption) ?rr2_6
  case hy2_6 => (intro w hSw; (try dsimp only at hSw); go_simp; try with_reducible rfl)
  try simp only [Act.put, List.setIfInBounds_toArray, List.set_cons_zero, List.set_cons_succ]
  refine call_w (i := 5) 22 rfl rfl (by kernel_rfl) (fun K hK => ?_)
  go_simp
  go_at_call 41
  refine (CH.out _).mono ?_
  rintro e wx5 ⟨rfl, k9⟩
  have hx2 := Lib.hid (show Ext W2 wx5 from ext_trans hx1.out k9)
  clear k9
  try go_wp2_with fail
  refine hK.out _ _ (HS.out _ hx2.out) (fun hHeld => ?_)
  clear hK K
  try simp only [Act.put, List.setIfInBounds_toArray, List.set_cons_zero, List.set_cons_succ]
  refine take_w (i := 7) 24 (v := ?vv2_7) rfl rfl (by kernel_rfl) (by kernel_rfl) (by kernel_rfl) (fun _ _ _ h => h) (Or.inl ⟨rfl, ?hy2_7⟩) (by assumption) ?rr2_7
  case hy2_7 => (intro w hSw; (try dsimp only at hSw); go_simp; try with_reducible rfl)
  try simp only [Act.put, List.setIfInBounds_toArray, List.set_cons_zero, List.set_cons_succ]
  refine take_w (i := 8) 25 (v := ?vv2_8) rfl rfl (by kernel_rfl) (by kernel_rfl) (by kernel_rfl) (fun _ _ _ h => h) (Or.inl ⟨rfl, ?hy2_8⟩) (by assumption) ?rr2_8
  case hy2_8 => (intro w hSw; (try dsimp only at hSw); go_simp; try with_reducible rfl)
  try simp only [Act.put, List.setIfInBounds_toArray, List.set_cons_zero, List.set_cons_succ]
  refine take_w (i := 9) 26 (v := ?vv2_9) rfl rfl (by kernel_rfl) (by kernel_rfl) (by kernel_rfl) (fun _ _ _ h => h) (Or.inl ⟨rfl, ?hy2_9⟩) (by assumption) ?rr2_9
  case hy2_9 => (intro w hSw; (try dsimp only at hSw); go_simp; try with_reducible rfl)
  try simp only [Act.put, List.setIfInBounds_toArray, List.set_cons_zero, List.set_cons_succ]
  refine take_w (i := 10) 27 (v := ?vv2_10) rfl rfl (by kernel_rfl) (by kernel_rfl) (by kernel_rfl) (fun _ _ _ h => h) (Or.inl ⟨rfl, ?hy2_10⟩) (by assumption) ?rr2_10
  case hy2_10 => (intro w hSw; (try dsimp only at hSw); go_simp; try with_reducible rfl)
  try simp only [Act.put, List.setIfInBounds_toArray, List.set_cons_zero, List.set_cons_succ]
  refine take_w (i := 11) 28 (v := ?vv2_11) rfl rfl (by kernel_rfl) (by kernel_rfl) (by kernel_rfl) (fun _ _ _ h => h) (Or.inl ⟨rfl, ?hy2_11⟩) (by assumption) ?rr2_11
  case hy2_11 => (intro w hSw; (try dsimp only at hSw); go_simp; try with_reducible rfl)
  try simp only [Act.put, List.setIfInBounds_toArray, List.set_cons_zero, List.set_cons_succ]
  refine call_w (i := 12) 29 rfl rfl (by kernel_rfl) (fun K hK => ?_)
  go_simp
  go_at_call 18
  refine (same_c 5000 HM.out _ _ q _ (NX.out.mono hx2.out) (NY.out.mono hx2.out) BQ.out (TB.out.mono hx2.out).2).mono ?_
  rintro e wx12 ⟨rfl, k9⟩
  have hx3 := Lib.hid (show Ext W2 wx12 from ext_trans hx2.out k9)
  clear k9
  try go_wp2_with fail
  refine hK.out _ _ (HS.out _ hx3.out) (fun hHeld => ?_)
  clear hK K
  try simp only [Act.put, List.setIfInBounds_toArray, List.set_cons_zero, List.set_cons_succ]
  refine take_w (i := 13) 30 (v := ?vv2_13) rfl rfl (by kernel_rfl) (by kernel_rfl) (by kernel_rfl) (fun _ _ _ h => h) (Or.inl ⟨rfl, ?hy2_13⟩) (by assumption) ?rr2_13
  case hy2_13 => (intro w hSw; (try dsimp only at hSw); go_simp; try with_reducible rfl)
  try simp only [Act.put, List.setIfInBounds_toArray, List.set_cons_zero, List.set_cons_succ]
  refine take_w (i := 14) 31 (v := ?vv2_14) rfl rfl (by kernel_rfl) (by kernel_rfl) (by kernel_rfl) (fun _ _ _ h => h) (Or.inl ⟨rfl, ?hy2_14⟩) (by assumption) ?rr2_14
  case hy2_14 => (intro w hSw; (try dsimp only at hSw); go_simp; try with_reducible rfl)
  try simp only [Act.put, List.setIfInBounds_toArray, List.set_cons_zero, List.set_cons_succ]
  refine take_w (i := 15) 32 (v := ?vv2_15) rfl rfl (by kernel_rfl) (by kernel_rfl) (by kernel_rfl) (fun _ _ _ h => h) (Or.inl ⟨rfl, ?hy2_15⟩) (by assumption) ?rr2_15
  case hy2_15 => (intro w hSw; (try dsimp only at hSw); go_simp; try with_reducible rfl)
  try simp only [Act.put, List.setIfInBounds_toArray, List.set_cons_zero, List.set_cons_succ]
  refine take_w (i := 16) 33 (v := ?vv2_16) rfl rfl (by kernel_rfl) (by kernel_rfl) (by kernel_rfl) (fun _ _ _ h => h) (Or.inl ⟨rfl, ?hy2_16⟩) (by assumption) ?rr2_16
  case hy2_16 => (intro w hSw; (try dsimp only at hSw); go_simp; try with_reducible rfl)
  try simp only [Act.put, List.setIfInBounds_toArray, List.set_cons_zero, List.set_cons_succ]
  refine take_w (i := 17) 34 (v := ?vv2_17) rfl rfl (by kernel_rfl) (by kernel_rfl) (by kernel_rfl) (fun _ _ _ h => h) (Or.inl ⟨rfl, ?hy2_17⟩) (by assumption) ?rr2_17
  case hy2_17 => (intro w hSw; (try dsimp only at hSw); go_simp; try with_reducible rfl)
  try simp only [Act.put, List.setIfInBounds_toArray, List.set_cons_zero, List.set_cons_succ]
  refine take_w (i := 18) 35 (v := undef) rfl rfl (by kernel_rfl) (by kernel_rfl) (by kernel_rfl) (fun _ _ _ h => h) (Or.inr ⟨rfl, rfl⟩) (by assumption) ?_
  try simp only [Act.put, List.setIfInBounds_toArray, List.set_cons_zero, List.set_cons_succ]
  refine take_w (i := 20) 37 (v := undef) rfl rfl (by kernel_rfl) (by kernel_rfl) (by kernel_rfl) (fun _ _ _ h => h) (Or.inr ⟨rfl, rfl⟩) (by assumption) ?_
  try simp only [Act.put, List.setIfInBounds_toArray, List.set_cons_zero, List.set_cons_succ]
  refine call_w (i := 19) 36 rfl rfl (by kernel_rfl) (fun K hK => ?_)
  rw [if_neg (by exact Bool.false_ne_true)]
  refine hK.out _ _ (by assumption) (fun hHeld => ?_)
  clear hK K
  try simp only [Act.put, List.setIfInBounds_toArray, List.set_cons_zero, List.set_cons_succ]
  refine take_w (i := 21) 38 (v := undef) rfl rfl (by kernel_rfl) (by kernel_rfl) (by kernel_rfl) (fun _ _ _ h => h) (Or.inr ⟨rfl, rfl⟩) (by assumption) ?_
  try simp only [Act.put, List.setIfInBounds_toArray, List.set_cons_zero, List.set_cons_succ]
  refine take_w (i := 22) 39 (v := ?vv2_22) rfl rfl (by kernel_rfl) (by kernel_rfl) (by kernel_rfl) (fun _ _ _ h => h) (Or.inl ⟨rfl, ?hy2_22⟩) (by assumption) ?rr2_22
  case hy2_22 => (intro w hSw; (try dsimp only at hSw); go_simp; try with_reducible rfl)
  try simp only [Act.put, List.setIfInBounds_toArray, List.set_cons_zero, List.set_cons_succ]
  refine take_w (i := 23) 40 (v := ?vv2_23) rfl rfl (by kernel_rfl) (by kernel_rfl) (by kernel_rfl) (fun _ _ _ h => h) (Or.inl ⟨rfl, ?hy2_23⟩) (by assumption) ?rr2_23
  case hy2_23 => (intro w hSw; (try dsimp only at hSw); go_simp; try with_reducible rfl)
  try simp only [Act.put, List.setIfInBounds_toArray, List.set_cons_zero, List.set_cons_succ]
  refine take_w (i := 24) 41 (v := ?vv2_24) rfl rfl (by kernel_rfl) (by kernel_rfl) (by kernel_rfl) (fun _ _ _ h => h) (Or.inl ⟨rfl, ?hy2_24⟩) (by assumption) ?rr2_24
  case hy2_24 => (intro w hSw; (try dsimp only at hSw); go_simp; try with_reducible rfl)
  try simp only [Act.put, List.setIfInBounds_toArray, List.set_cons_zero, List.set_cons_succ]
  refine take_w (i := 25) 42 (v := ?vv2_25) rfl rfl (by kernel_rfl) (by kernel_rfl) (by kernel_rfl) (fun _ _ _ h => h) (Or.inl ⟨rfl, ?hy2_25⟩) (by assumption) ?rr2_25
  case hy2_25 => (intro w hSw; (try dsimp only at hSw); go_simp; try with_reducible rfl)
  try simp only [Act.put, List.setIfInBounds_toArray, List.set_cons_zero, List.set_cons_succ]
  refine take_w (i := 27) 44 (v := ?vv2_27) rfl rfl (by kernel_rfl) (by kernel_rfl) (by kernel_rfl) (fun _ _ _ h => h) (Or.inl ⟨rfl, ?hy2_27⟩) (by assumption) ?rr2_27
  case hy2_27 => (intro w hSw; (try dsimp only at hSw); go_simp; try with_reducible rfl)
  try simp only [Act.put, List.setIfInBounds_toArray, List.set_cons_zero, List.set_cons_succ]
  refine call_w (i := 26) 43 rfl rfl (by kernel_rfl) (fun K hK => ?_)
  go_simp
  go_at_call 43
  refine (digits_e 5000 HM.out _ q d HD.out _ (NX.out.mono hx3.out) BQ.out (TB.out.mono hx3.out).2).mono ?_
  rintro e wx26 ⟨rfl, k9⟩
  have hx4 := Lib.hid (show Ext W2 wx26 from ext_trans hx3.out k9)
  clear k9
  try go_wp2_with fail
  refine hK.out _ _ (HS.out _ hx4.out) (fun hHeld => ?_)
  clear hK K
  try simp only [Act.put, List.setIfInBounds_toArray, List.set_cons_zero, List.set_cons_succ]
  refine call_w (i := 28) 45 rfl rfl (by kernel_rfl) (fun K hK => ?_)
  go_simp
  go_at_call 44
  refine (digits_er 5000 HM.out _ q d HD.out _ (NY.out.mono hx4.out) BQ.out).mono ?_
  rintro e wx28 ⟨rfl, k9⟩
  have hx5 := Lib.hid (show Ext W2 wx28 from ext_trans hx4.out k9)
  clear k9
  try go_wp2_with fail
  refine hK.out _ _ (HS.out _ hx5.out) (fun hHeld => ?_)
  clear hK K
  try simp only [Act.put, List.setIfInBounds_toArray, List.set_cons_zero, List.set_cons_succ]
  refine take_w (i := 29) 46 (v := ?vv2_29) rfl rfl (by kernel_rfl) (by kernel_rfl) (by kernel_rfl) (fun _ _ _ h => h) (Or.inl ⟨rfl, ?hy2_29⟩) (by assumption) ?rr2_29
  case hy2_29 => (intro w hSw; (try dsimp only at hSw); go_simp; try with_reducible rfl)
  try simp only [Act.put, List.setIfInBounds_toArray, List.set_cons_zero, List.set_cons_succ]
  refine take_w (i := 30) 47 (v := ?vv2_30) rfl rfl (by kernel_rfl) (by kernel_rfl) (by kernel_rfl) (fun _ _ _ h => h) (Or.inl ⟨rfl, ?hy2_30⟩) (by assumption) ?rr2_30
  case hy2_30 => (intro w hSw; (try dsimp only at hSw); go_simp; try with_reducible rfl)
  try simp only [Act.put, List.setIfInBounds_toArray, List.set_cons_zero, List.set_cons_succ]
  refine take_w (i := 31) 48 (v := ?vv2_31) rfl rfl (by kernel_rfl) (by kernel_rfl) (by kernel_rfl) (fun _ _ _ h => h) (Or.inl ⟨rfl, ?hy2_31⟩) (by assumption) ?rr2_31
  case hy2_31 => (intro w hSw; (try dsimp only at hSw); go_simp; try with_reducible rfl)
  try simp only [Act.put, List.setIfInBounds_toArray, List.set_cons_zero, List.set_cons_succ]
  refine call_w (i := 32) 49 rfl rfl (by kernel_rfl) (fun K hK => ?_)
  go_simp
  go_at_call 19
  refine (awake_c _ (TB.out.mono hx5.out)).mono ?_
  rintro e wx32 ⟨rfl, k9⟩
  have hx6 := Lib.hid (show Ext W2 wx32 from ext_trans hx5.out k9)
  clear k9
  try go_wp2_with fail
  refine hK.out _ _ (HS.out _ hx6.out) (fun hHeld => ?_)
  clear hK K
  try simp only [Act.put, List.setIfInBounds_toArray, List.set_cons_zero, List.set_cons_succ]
  refine take_w (i := 33) 50 (v := ?vv2_33) rfl rfl (by kernel_rfl) (by kernel_rfl) (by kernel_rfl) (fun _ _ _ h => h) (Or.inl ⟨rfl, ?hy2_33⟩) (by assumption) ?rr2_33
  case hy2_33 => (intro w hSw; (try dsimp only at hSw); go_simp; try with_reducible rfl)
  try simp only [Act.put, List.setIfInBounds_toArray, List.set_cons_zero, List.set_cons_succ]
  refine take_w (i := 34) 2 (v := ?vv2_34) rfl rfl (by kernel_rfl) (by kernel_rfl) (by kernel_rfl) (fun _ _ _ h => h) (Or.inl ⟨rfl, ?hy2_34⟩) (by assumption) ?rr2_34
  case hy2_34 => (intro w hSw; (try dsimp only at hSw); go_simp; try with_reducible rfl)
  try simp only [Act.put, List.setIfInBounds_toArray, List.set_cons_zero, List.set_cons_succ]
  refine wpAnyH_done (by kernel_rfl) ?_ _
  refine NoPanic.normal ?_
  go_wp2_with fail
  go_ret
  exact ⟨by simp, ext_trans HE.out hx6.out⟩
theorem parses_c (l : List UInt8) (hs : l.length ≤ 9223372036854775807) (w : World) (ht : Tab w) :
    Calls Tryz.prog 7 #[.string ⟨l.toArray⟩] w fun e w' => e = .returned (.bool true) ∧ Ext w w' := by
  rcases parse_codes l with h | h | h
  · exact parses_ok l hs w ht h
  · exact parses_no3 l hs w ht h
  · exact parses_no6 l hs w ht h
end Go.Proofs.YtpgdefgdboijlaaGreatDoor
