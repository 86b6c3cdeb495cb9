/- Plain laws: the order of numbers. -/
import Derived.Test.YtpgdefgdboijlaaGreatDoorNg
namespace Go.Proofs.YtpgdefgdboijlaaGreatDoor
set_option linter.unusedVariables false
theorem cmpQ_le {x y : Rat} : cmpQ x y ≤ 0 ↔ x ≤ y := by
  have h := cmpQ_one x y
  have h1 := cmpQ_pos x y
  rw [← Rat.not_lt, ← h1]
  omega
theorem cmpQ_gt {x y : Rat} : 0 < cmpQ x y ↔ y < x := by
  have h := cmpQ_one x y
  rw [← cmpQ_pos x y]
  omega
theorem order_min (x y z : Rat) (h1 : cmpQ x y ≤ 0) (h2 : cmpQ y z ≤ 0) : cmpQ x z = min (cmpQ x y) (cmpQ y z) := by
  have a1 := cmpQ_one x y
  have a2 := cmpQ_one y z
  rcases rat_tri x y with h | h | h
  · rw [(cmpQ_neg x y).2 h]
    have : x < z := Std.lt_of_lt_of_le h (cmpQ_le.1 h2)
    rw [(cmpQ_neg x z).2 this]
    omega
  · subst h
    rw [(cmpQ_zero x x).2 rfl]
    omega
  · have := cmpQ_le.1 h1
    exact absurd h (Rat.not_lt.2 this)
theorem cmpQ_shift (x y z : Rat) : cmpQ (x + z) (y + z) = cmpQ x y := by
  rw [← cmpQ_sub, ← cmpQ_sub x y]
  congr 2
  grind
theorem sign_of (z : Rat) : z.num.sign = cmpQ z 0 := (cmpQ_zero_right z).symm
theorem cmpQ_times (x y z : Rat) : cmpQ (x * z) (y * z) = cmpQ x y * z.num.sign := by
  rw [sign_of]
  rcases rat_tri z 0 with h | h | h
  · rw [(cmpQ_neg z 0).2 h]
    have hz : 0 < -z := by grind
    rcases rat_tri x y with k | k | k
    · have := Rat.mul_lt_mul_of_pos_right k hz
      rw [(cmpQ_neg x y).2 k, (cmpQ_pos (x * z) (y * z)).2 (by grind)]; rfl
    · subst k
      rw [(cmpQ_zero (x * z) (x * z)).2 rfl, (cmpQ_zero x x).2 rfl]; rfl
    · have := Rat.mul_lt_mul_of_pos_right k hz
      rw [(cmpQ_pos x y).2 k, (cmpQ_neg (x * z) (y * z)).2 (by grind)]; rfl
  · subst h
    rw [Rat.mul_zero, Rat.mul_zero, (cmpQ_zero 0 0).2 rfl, Int.mul_zero]
  · rw [(cmpQ_pos z 0).2 h, Int.mul_one]
    rcases rat_tri x y with k | k | k
    · have := Rat.mul_lt_mul_of_pos_right k h
      rw [(cmpQ_neg x y).2 k, (cmpQ_neg (x * z) (y * z)).2 this]
    · subst k
      rw [(cmpQ_zero (x * z) (x * z)).2 rfl, (cmpQ_zero x x).2 rfl]
    · have := Rat.mul_lt_mul_of_pos_right k h
      rw [(cmpQ_pos x y).2 k, (cmpQ_pos (x * z) (y * z)).2 this]
theorem min_max (x y : Rat) : minQ x y + maxQ x y = x + y := by
  unfold minQ maxQ
  rcases rat_tri x y with k | k | k
  · rw [if_neg (Rat.not_lt.2 (Rat.le_of_lt k)), if_pos k]
  · subst k
    rw [if_neg Rat.lt_irrefl]
  · rw [if_pos k, if_neg (Rat.not_lt.2 (Rat.le_of_lt k)), Rat.add_comm]
theorem min_le_max (x y : Rat) : cmpQ (minQ x y) (maxQ x y) ≤ 0 := by
  rw [cmpQ_le]
  unfold minQ maxQ
  rcases rat_tri x y with k | k | k
  · rw [if_neg (Rat.not_lt.2 (Rat.le_of_lt k)), if_pos k]; exact Rat.le_of_lt k
  · subst k
    rw [if_neg Rat.lt_irrefl]; exact Rat.le_refl
  · rw [if_pos k, if_neg (Rat.not_lt.2 (Rat.le_of_lt k))]; exact Rat.le_of_lt k
end Go.Proofs.YtpgdefgdboijlaaGreatDoor
