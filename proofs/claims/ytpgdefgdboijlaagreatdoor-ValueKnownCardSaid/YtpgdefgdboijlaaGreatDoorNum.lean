/- Numbers: sign, numerator, denominator. -/
import Derived.Test.YtpgdefgdboijlaaGreatDoorWj
namespace Go.Proofs.YtpgdefgdboijlaaGreatDoor
open Go.RowKit
set_option linter.unusedVariables false

def sg (b : Bool) (n : Nat) : Int := if b then -(n : Int) else n
/-- the number with this sign, numerator and denominator -/
def rat (b : Bool) (n d : Nat) : Rat := mkRat (sg b n) d

theorem sg_natAbs (b n) : (sg b n).natAbs = n := by unfold sg; split <;> simp
theorem rat_natAbs (b : Bool) (n d : Nat) (hd : d ≠ 0) : (rat b n d).num.natAbs = n / Nat.gcd n d := by
  unfold rat
  rw [Rat.num_mkRat, if_neg hd, sg_natAbs, Nat.gcd_comm]
  unfold sg
  split
  · rw [Int.natAbs_ediv_of_dvd (by rw [Int.dvd_neg]; exact Int.natCast_dvd_natCast.2 (Nat.gcd_dvd_left n d))]
    simp
  · rw [Int.natAbs_ediv_of_dvd (Int.natCast_dvd_natCast.2 (Nat.gcd_dvd_left n d))]; simp
theorem rat_den (b : Bool) (n d : Nat) (hd : d ≠ 0) : (rat b n d).den = d / Nat.gcd n d := by
  unfold rat
  rw [Rat.den_mkRat, if_neg hd, sg_natAbs, Nat.gcd_comm]
theorem rat_neg (b : Bool) (n d : Nat) (hd : d ≠ 0) (hn : 0 < n) : decide ((rat b n d).num < 0) = b := by
  have h1 : (rat b n d).num < 0 ↔ b = true := by
    have h := Rat.num_mkRat (sg b n) d
    unfold rat
    rw [h, if_neg hd]
    have hg : 0 < Nat.gcd d (sg b n).natAbs := Nat.gcd_pos_of_pos_left _ (by omega)
    cases b
    · simp only [Bool.false_eq_true, iff_false, Int.not_lt]
      exact Int.ediv_nonneg (by unfold sg; simp) (by omega)
    · simp only [iff_true]
      have hlt : sg true n < 0 := by unfold sg; simp; omega
      exact Int.ediv_neg_of_neg_of_pos hlt (by exact_mod_cast hg)
  cases b
  · simpa using h1
  · simpa using h1
theorem rat_zero (b : Bool) (d : Nat) : rat b 0 d = 0 := by
  unfold rat sg
  cases b <;> simp
/-- every number is of its own parts -/
theorem rat_self (q : Rat) : rat (decide (q.num < 0)) q.num.natAbs q.den = q := by
  unfold rat
  have : sg (decide (q.num < 0)) q.num.natAbs = q.num := by
    unfold sg
    split
    · rename_i h
      simp only [decide_eq_true_eq] at h
      omega
    · rename_i h
      simp only [decide_eq_true_eq] at h
      omega
  rw [this]; exact Rat.mkRat_self q

/-- the denominator as it is kept -/
def dn (q : Rat) : Nat := if q.den = 1 then 0 else q.den
/-- the value is this number -/
def Nm (w : World) (v : Value) (q : Rat) : Prop := ∃ vn vd, v = .agg #[.bool (decide (q.num < 0)), vn, vd] ∧ Wd w vn q.num.natAbs ∧ Wd w vd (dn q)
theorem Nm.mono {w w' : World} {v : Value} {q : Rat} (h : Nm w v q) (k : Ext w w') : Nm w' v q := by
  obtain ⟨vn, vd, e, h1, h2⟩ := h
  exact ⟨vn, vd, e, h1.mono k, h2.mono k⟩
/-- both parts are small -/
def SmQ (q : Rat) : Prop := Sm q.num.natAbs ∧ Sm q.den
theorem Nm.zero (w : World) : Nm w (.agg #[.bool false, .slice none 0 0, .slice none 0 0]) 0 := ⟨_, _, rfl, Wd.zero w, Wd.zero w⟩

end Go.Proofs.YtpgdefgdboijlaaGreatDoor
