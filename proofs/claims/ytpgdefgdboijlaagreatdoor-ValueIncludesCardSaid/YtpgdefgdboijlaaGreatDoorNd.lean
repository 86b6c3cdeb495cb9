/- Numbers: negative, size, sign. -/
import Derived.Test.YtpgdefgdboijlaaGreatDoorNc
namespace Go.Proofs.YtpgdefgdboijlaaGreatDoor
open Go.RowKit
set_option linter.unusedVariables false

theorem setup1 (w : World) (x0 x1 x2 : Value) :
    (∀ W, Ext (w.alloc (.cells #[x0, x1, x2] 25)) W → W.cell? ⟨w.heap.size, 0, none⟩ = some x0 ∧ W.cell? ⟨w.heap.size, 1, none⟩ = some x1 ∧ W.cell? ⟨w.heap.size, 2, none⟩ = some x2) ∧
    (∀ W, Ext ((w.alloc (.cells #[x0, x1, x2] 25)).alloc (.cells #[.bool false, .slice none 0 0, .slice none 0 0] 25)) W → W.heap[w.heap.size + 1]? = some (.cells #[.bool false, .slice none 0 0, .slice none 0 0] 25 (0, 0))) ∧
    Ext w (w.alloc (.cells #[x0, x1, x2] 25)) ∧
    Ext (w.alloc (.cells #[x0, x1, x2] 25)) ((w.alloc (.cells #[x0, x1, x2] 25)).alloc (.cells #[.bool false, .slice none 0 0, .slice none 0 0] 25)) ∧ w.heap.size ≤ w.heap.size + 1 ∧
    (w.alloc (.cells #[x0, x1, x2] 25)).heap.size ≤ w.heap.size + 1 := by
  have z0 : (w.alloc (.cells #[x0, x1, x2] 25)).heap.size = w.heap.size + 1 := by simp
  refine ⟨fun W h => ?_, fun W h => ?_, ext_alloc _ _, ext_alloc _ _, by omega, Nat.le_of_eq z0⟩
  · obtain ⟨a, b, c, -⟩ := row3_0 (row3 h)
    exact ⟨a, b, c⟩
  · have r2 := row3 h
    rw [z0] at r2
    exact r2
theorem setup2n (w : World) (x0 x1 x2 y0 y1 y2 : Value) :
    (∀ W, Ext ((w.alloc (.cells #[x0, x1, x2] 25)).alloc (.cells #[y0, y1, y2] 25)) W → W.cell? ⟨w.heap.size, 0, none⟩ = some x0 ∧ W.cell? ⟨w.heap.size, 1, none⟩ = some x1 ∧ W.cell? ⟨w.heap.size, 2, none⟩ = some x2 ∧
      W.cell? ⟨w.heap.size + 1, 0, none⟩ = some y0 ∧ W.cell? ⟨w.heap.size + 1, 1, none⟩ = some y1 ∧ W.cell? ⟨w.heap.size + 1, 2, none⟩ = some y2) ∧
    Ext w ((w.alloc (.cells #[x0, x1, x2] 25)).alloc (.cells #[y0, y1, y2] 25)) := by
  have h := setup2 w x0 x1 x2 y0 y1 y2
  exact ⟨h.1, h.2.2.1⟩

theorem dn_neg (x : Rat) : dn (-x) = dn x := by unfold dn; rw [Rat.neg_den]
theorem Nm.flip {W : World} {s : Bool} {vn vd : Value} {x : Rat} (h1 : Wd W vn x.num.natAbs) (h2 : Wd W vd (dn x)) (hs : s = decide ((-x).num < 0)) : Nm W (.agg #[.bool s, vn, vd]) (-x) := by
  subst hs
  exact ⟨_, _, rfl, by rw [Rat.neg_num, Int.natAbs_neg]; exact h1, by rw [dn_neg]; exact h2⟩
theorem Nm.same {W : World} {s : Bool} {vn vd : Value} {x : Rat} (h1 : Wd W vn x.num.natAbs) (h2 : Wd W vd (dn x)) (hs : s = decide (x.num < 0)) : Nm W (.agg #[.bool s, vn, vd]) x := by
  subst hs
  exact ⟨_, _, rfl, h1, h2⟩
theorem ext2 (w : World) (a b : Obj) : Ext w ((w.alloc a).alloc b) := ext_trans (ext_alloc _ _) (ext_alloc _ _)
theorem ret_i {a b : Int} (h : a = b) : Ending.returned (.int .i64 b) = .returned (.int .i64 a) := by rw [h]
/-- the size of a number -/
def absQ (x : Rat) : Rat := if x.num < 0 then -x else x

set_option maxRecDepth 100000 in
set_option maxHeartbeats 1000000 in
theorem neg_q (vx : Value) (x : Rat) (w : World) (hx : Nm w vx x) :
    Calls Tryz.prog 47 #[vx] w fun e w' => ∃ v, e = .returned v ∧ Nm w' v (-x) ∧ Ext w w' := by
  obtain ⟨A, k, ca, B, l, cb, rfl, hxn, hxd, hk, -⟩ := hx.form
  have Hxn := Lib.hid hxn
  have Hxd := Lib.hid hxd
  have Hk := Lib.hid hk
  clear hx hxn hxd hk
  rcases hb : decide (x.num < 0) with _ | _
  · have Hb := Lib.hid (show ¬ x.num < 0 by simpa using hb)
    clear hb
    rcases Nat.eq_zero_or_pos k with h0 | h0
    · subst h0
      go_enter Tryz.func47, Tryz.ntmps47
      go_wp2_with fail
      refine bodyPost_ret (v := .agg #[.bool false, .slice A 0 ca, .slice B l cb]) (by simp [results, Tryz.f47]; go_simp) rfl ?_
      have e : x = 0 := Hk.out.1 (by first | rfl | trivial)
      refine ⟨_, rfl, Nm.flip (Hxn.out.mono (ext2 _ _ _)) (Hxd.out.mono (ext2 _ _ _)) ?_, ext2 _ _ _⟩
      rw [e]; rfl
    · have t1 : ((0 : Int) < (k : Int)) := by omega
      have hk0 : ¬ k = 0 := by omega
      have Hk0 := Lib.hid hk0
      clear hk0
      go_enter Tryz.func47, Tryz.ntmps47
      go_wp2_with fail
      refine bodyPost_ret (v := .agg #[.bool true, .slice A k ca, .slice B l cb]) (by simp [results, Tryz.f47]; go_simp) rfl ?_
      have e : x.num ≠ 0 := fun e => Hk0.out (Hk.out.2 (Rat.num_eq_zero.1 e))
      have hb := Hb.out
      refine ⟨_, rfl, Nm.flip (Hxn.out.mono (ext2 _ _ _)) (Hxd.out.mono (ext2 _ _ _)) ?_, ext2 _ _ _⟩
      rw [Rat.neg_num]; symm; rw [decide_eq_true_eq]; omega
  · have Hb := Lib.hid (show x.num < 0 by simpa using hb)
    clear hb
    go_enter Tryz.func47, Tryz.ntmps47
    go_wp2_with fail
    refine bodyPost_ret (v := .agg #[.bool false, .slice A k ca, .slice B l cb]) (by simp [results, Tryz.f47]; go_simp) rfl ?_
    have hb := Hb.out
    refine ⟨_, rfl, Nm.flip (Hxn.out.mono (ext2 _ _ _)) (Hxd.out.mono (ext2 _ _ _)) ?_, ext2 _ _ _⟩
    rw [Rat.neg_num]; symm; rw [decide_eq_false_iff_not]; omega

set_option maxRecDepth 100000 in
set_option maxHeartbeats 1000000 in
theorem abs_q (vx : Value) (x : Rat) (w : World) (hx : Nm w vx x) :
    Calls Tryz.prog 64 #[vx] w fun e w' => ∃ v, e = .returned v ∧ Nm w' v (absQ x) ∧ Ext w w' := by
  obtain ⟨A, k, ca, B, l, cb, rfl, hxn, hxd, hk, -⟩ := hx.form
  have Hxn := Lib.hid hxn
  have Hxd := Lib.hid hxd
  clear hx hxn hxd hk
  generalize hb : decide (x.num < 0) = b
  have Hb := Lib.hid hb
  clear hb
  go_enter Tryz.func64, Tryz.ntmps64
  go_wp2_with fail
  refine bodyPost_ret (v := .agg #[.bool false, .slice A k ca, .slice B l cb]) (by simp [results, Tryz.f64]; go_simp) rfl ?_
  refine ⟨_, rfl, ?_, ext2 _ _ _⟩
  unfold absQ
  split
  · rename_i h
    exact Nm.flip (Hxn.out.mono (ext2 _ _ _)) (Hxd.out.mono (ext2 _ _ _)) (by rw [Rat.neg_num]; symm; rw [decide_eq_false_iff_not]; omega)
  · rename_i h
    exact Nm.same (Hxn.out.mono (ext2 _ _ _)) (Hxd.out.mono (ext2 _ _ _)) (by symm; rw [decide_eq_false_iff_not]; exact h)

set_option maxRecDepth 100000 in
set_option maxHeartbeats 1000000 in
theorem sign_q (vx : Value) (x : Rat) (w : World) (hx : Nm w vx x) :
    Calls Tryz.prog 52 #[vx] w fun e w' => e = .returned (.int .i64 x.num.sign) ∧ Ext w w' := by
  obtain ⟨A, k, ca, B, l, cb, rfl, hxn, hxd, hk, -⟩ := hx.form
  have Hk := Lib.hid hk
  clear hx hxn hxd hk
  rcases Nat.eq_zero_or_pos k with h0 | h0
  · subst h0
    generalize hb : decide (x.num < 0) = b
    clear hb
    go_enter Tryz.func52, Tryz.ntmps52
    go_wp2_with fail
    go_ret
    have e : x = 0 := Hk.out.1 (by first | rfl | trivial)
    exact ⟨ret_i (by rw [e]; rfl), ext_alloc _ _⟩
  · have t1 : ((k : Int) == 0) = false := by simp; omega
    have Hk0 := Lib.hid (show ¬ k = 0 by omega)
    rcases hb : decide (x.num < 0) with _ | _
    · have Hb := Lib.hid (show ¬ x.num < 0 by simpa using hb)
      clear hb
      go_enter Tryz.func52, Tryz.ntmps52
      go_wp2_with fail
      go_ret
      have e : x.num ≠ 0 := fun e => Hk0.out (Hk.out.2 (Rat.num_eq_zero.1 e))
      have hb := Hb.out
      exact ⟨ret_i (Int.sign_eq_one_of_pos (by omega)), ext_alloc _ _⟩
    · have Hb := Lib.hid (show x.num < 0 by simpa using hb)
      clear hb
      go_enter Tryz.func52, Tryz.ntmps52
      go_wp2_with fail
      go_ret
      exact ⟨ret_i (Int.sign_eq_neg_one_of_neg Hb.out), ext_alloc _ _⟩
end Go.Proofs.YtpgdefgdboijlaaGreatDoor
