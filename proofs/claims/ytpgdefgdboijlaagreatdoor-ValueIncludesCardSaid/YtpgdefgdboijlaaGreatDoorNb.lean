/- Numbers: the denominator; sums, products. -/
import Derived.Test.YtpgdefgdboijlaaGreatDoorNa
import Derived.Deep.RegionHeld3
namespace Go.Proofs.YtpgdefgdboijlaaGreatDoor
open Go.RowKit
set_option linter.unusedVariables false

theorem dg_len_zero {n : Nat} : (dg n).length = 0 ↔ n = 0 := by
  rw [List.length_eq_zero_iff]; exact dig_eq_nil B64_two
/-- the form of a number -/
theorem Nm.form {w : World} {v : Value} {q : Rat} (h : Nm w v q) : ∃ A k c B l d, v = .agg #[.bool (decide (q.num < 0)), .slice A k c, .slice B l d] ∧ Wd w (.slice A k c) q.num.natAbs ∧ Wd w (.slice B l d) (dn q) ∧ (k = 0 ↔ q = 0) ∧ (l = 0 ↔ q.den = 1) := by
  obtain ⟨vn, vd, rfl, h1, h2⟩ := h
  obtain ⟨A, c, rfl⟩ := h1.form
  obtain ⟨B, d, rfl⟩ := h2.form
  refine ⟨A, _, c, B, _, d, rfl, h1, h2, ?_, ?_⟩
  · rw [dg_len_zero, Int.natAbs_eq_zero]; exact Rat.num_eq_zero
  · rw [dg_len_zero]
    unfold dn
    have := q.den_nz
    split <;> simp_all
set_option maxRecDepth 100000 in
theorem under_c (v : Value) (q : Rat) (w : World) (h : Nm w v q) :
    Calls Tryz.prog 115 #[v] w fun e w' => ∃ v', e = .returned v' ∧ Wd w' v' q.den ∧ Ext w w' := by
  obtain ⟨A, k, c, B, l, d, rfl, h1, h2, -, hl⟩ := h.form
  have H2 := Lib.hid h2
  have Hl := Lib.hid hl
  clear h1 h2 hl h
  rcases Nat.eq_zero_or_pos l with h0 | h0
  · subst h0
    go_enter Tryz.func115, Tryz.ntmps115
    go_wp2_with fail
    refine (one_c _).mono ?_
    rintro e w1 ⟨v1, rfl, hv, hx⟩
    have Hv := Lib.hid hv
    have Hx := Lib.hid hx
    clear hv hx
    go_wp2_with fail
    go_ret
    refine ⟨_, rfl, ?_, ext_trans (ext_alloc _ _) Hx.out⟩
    rw [Hl.out.1 (by first | rfl | trivial)]; exact Hv.out
  · have t1 : ((l : Int) == 0) = false := by simp; omega
    go_enter Tryz.func115, Tryz.ntmps115
    go_wp2_with fail
    go_ret
    refine ⟨_, rfl, ?_, ext_alloc _ _⟩
    have h3 : ¬ q.den = 1 := fun h => by have := Hl.out.2 h; omega
    have h4 := H2.out.mono (ext_alloc w (.cells #[.bool (decide (q.num < 0)), .slice A k c, .slice B l d] 25))
    unfold dn at h4
    rw [if_neg h3] at h4
    exact h4
end Go.Proofs.YtpgdefgdboijlaaGreatDoor
