/- Sizes of numbers. -/
import Derived.Test.YtpgdefgdboijlaaGreatDoorWj
import Derived.Test.YtpgdefgdboijlaaGreatDoorRat
namespace Go.Proofs.YtpgdefgdboijlaaGreatDoor
open Go.RowKit
set_option linter.unusedVariables false

theorem sm_of_lt {n B : Nat} (h : n < 2 ^ B) (hB : B ≤ 35184372088832) : Sm n := by
  unfold Sm dg
  have h1 : n < B64 ^ (B / 64 + 1) := by
    have : B64 = 2 ^ 64 := rfl
    rw [this, ← Nat.pow_mul]
    exact Nat.lt_of_lt_of_le h (Nat.pow_le_pow_right (by decide) (by omega))
  have h2 := dig_length_le B64_two h1
  omega
theorem lt_mul {m n A B : Nat} (h : m < 2 ^ A) (k : n < 2 ^ B) : m * n < 2 ^ (A + B) := by
  rw [Nat.pow_add]
  rcases Nat.eq_zero_or_pos n with h0 | h0
  · subst h0
    rw [Nat.mul_zero]
    exact Nat.mul_pos (Nat.pow_pos (by decide)) (Nat.pow_pos (by decide))
  · calc m * n < 2 ^ A * n := Nat.mul_lt_mul_of_pos_right h h0
      _ ≤ 2 ^ A * 2 ^ B := Nat.mul_le_mul_left _ (Nat.le_of_lt k)
theorem lt_add {m n A : Nat} (h : m < 2 ^ A) (k : n < 2 ^ A) : m + n < 2 ^ (A + 1) := by
  rw [Nat.pow_succ]; omega
theorem lt_mono {m A B : Nat} (h : m < 2 ^ A) (k : A ≤ B) : m < 2 ^ B :=
  Nat.lt_of_lt_of_le h (Nat.pow_le_pow_right (by decide) k)
/-- both parts have at most B bits -/
def Bq (B : Nat) (q : Rat) : Prop := q.num.natAbs < 2 ^ B ∧ q.den < 2 ^ B
theorem Bq.mono {A B : Nat} {q : Rat} (h : Bq A q) (k : A ≤ B) : Bq B q := ⟨lt_mono h.1 k, lt_mono h.2 k⟩
theorem bq_rat {b : Bool} {n d B : Nat} (hn : n < 2 ^ B) (hd : d < 2 ^ B) (h0 : d ≠ 0) : Bq B (rat b n d) :=
  ⟨by rw [rat_natAbs _ _ _ h0]; exact Nat.lt_of_le_of_lt (Nat.div_le_self _ _) hn, by rw [rat_den _ _ _ h0]; exact Nat.lt_of_le_of_lt (Nat.div_le_self _ _) hd⟩
theorem bq_zero (B : Nat) (h : 0 < B) : Bq B 0 := ⟨by simp; exact Nat.pow_pos (by decide), by
  show 1 < 2 ^ B
  exact Nat.one_lt_two_pow (by omega)⟩
theorem Bq.neg {B : Nat} {q : Rat} (h : Bq B q) : Bq B (-q) := ⟨by rw [Rat.neg_num, Int.natAbs_neg]; exact h.1, by rw [Rat.neg_den]; exact h.2⟩
theorem Bq.mul {A B : Nat} {x y : Rat} (h : Bq A x) (k : Bq B y) : Bq (A + B) (x * y) := by
  rw [← mul_parts x y]
  exact bq_rat (lt_mul h.1 k.1) (lt_mul h.2 k.2) (Nat.mul_ne_zero x.den_nz y.den_nz)
theorem Bq.add {A B : Nat} {x y : Rat} (h : Bq A x) (k : Bq B y) : Bq (A + B + 1) (x + y) := by
  have h1 := lt_mul h.1 k.2
  have h2 := lt_mul k.1 h.2
  rw [Nat.add_comm B A] at h2
  have h3 := lt_mul h.2 k.2
  have h4 : x.den * y.den < 2 ^ (A + B + 1) := lt_mono h3 (by omega)
  have h0 := Nat.mul_ne_zero x.den_nz y.den_nz
  by_cases hs : decide (x.num < 0) = decide (y.num < 0)
  · rw [← add_same x y hs]
    exact bq_rat (lt_add h1 h2) h4 h0
  · have hs' : decide (x.num < 0) = !decide (y.num < 0) := by
      revert hs; cases decide (x.num < 0) <;> cases decide (y.num < 0) <;> simp
    rcases Nat.le_total (y.num.natAbs * x.den) (x.num.natAbs * y.den) with hl | hl
    · rw [← add_more x y hs' hl]
      exact bq_rat (Nat.lt_of_le_of_lt (Nat.sub_le _ _) (lt_mono h1 (by omega))) h4 h0
    · rw [← add_less x y hs' hl]
      exact bq_rat (Nat.lt_of_le_of_lt (Nat.sub_le _ _) (lt_mono h2 (by omega))) h4 h0
theorem Bq.sub {A B : Nat} {x y : Rat} (h : Bq A x) (k : Bq B y) : Bq (A + B + 1) (x - y) := by
  rw [Rat.sub_eq_add_neg]; exact h.add k.neg
theorem Bq.div {A B : Nat} {x y : Rat} (h : Bq A x) (k : Bq B y) (hy : y ≠ 0) : Bq (A + B) (x / y) := by
  rw [← div_parts x y hy]
  have hn : y.num.natAbs ≠ 0 := by rw [Ne, Int.natAbs_eq_zero, Rat.num_eq_zero]; exact hy
  exact bq_rat (lt_mul h.1 k.2) (lt_mul h.2 k.1) (Nat.mul_ne_zero x.den_nz hn)
/-- what the sizes say of the words -/
theorem Bq.sm {M : Nat} {x : Rat} (h : Bq M x) (hM : M ≤ 1099511627776) : Sm x.num.natAbs ∧ Sm x.den :=
  ⟨sm_of_lt h.1 (by omega), sm_of_lt h.2 (by omega)⟩
theorem Bq.sm2 {M : Nat} {x y : Rat} (h : Bq M x) (k : Bq M y) (hM : M ≤ 1099511627776) :
    Sm (x.num.natAbs * y.num.natAbs) ∧ Sm (x.den * y.den) ∧ Sm (x.num.natAbs * y.den) ∧ Sm (y.num.natAbs * x.den) ∧ Sm (x.den * y.num.natAbs) ∧ Sm (x.num.natAbs * y.den + y.num.natAbs * x.den) :=
  ⟨sm_of_lt (lt_mul h.1 k.1) (by omega), sm_of_lt (lt_mul h.2 k.2) (by omega), sm_of_lt (lt_mul h.1 k.2) (by omega), sm_of_lt (lt_mul k.1 h.2) (by omega), sm_of_lt (lt_mul h.2 k.1) (by omega), sm_of_lt (lt_add (lt_mul h.1 k.2) (lt_mul k.1 h.2)) (by omega)⟩
end Go.Proofs.YtpgdefgdboijlaaGreatDoor
