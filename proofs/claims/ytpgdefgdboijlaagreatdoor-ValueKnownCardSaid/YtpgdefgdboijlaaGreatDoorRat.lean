/- Plain laws of numbers with sign, numerator and denominator. -/
import Derived.Test.YtpgdefgdboijlaaGreatDoorNum
namespace Go.Proofs.YtpgdefgdboijlaaGreatDoor
open Go.RowKit
set_option linter.unusedVariables false

theorem sg_mul (a b : Bool) (n m : Nat) : sg a n * sg b m = sg (a != b) (n * m) := by
  cases a <;> cases b <;> simp [sg, Int.neg_mul, Int.mul_neg]
theorem rat_mul (a b : Bool) (n m d e : Nat) : rat a n d * rat b m e = rat (a != b) (n * m) (d * e) := by
  unfold rat; rw [Rat.mkRat_mul_mkRat, sg_mul]
theorem sg_mul_nat (a : Bool) (n m : Nat) : sg a n * (m : Int) = sg a (n * m) := by
  cases a <;> simp [sg, Int.neg_mul]
theorem sg_add (a : Bool) (n m : Nat) : sg a n + sg a m = sg a (n + m) := by
  cases a <;> simp [sg] <;> omega
theorem sg_not (a : Bool) (n : Nat) : sg (!a) n = - sg a n := by
  cases a <;> simp [sg]
theorem sg_sub (a : Bool) (n m : Nat) (h : m ≤ n) : sg a n + sg (!a) m = sg a (n - m) := by
  cases a <;> simp [sg] <;> omega
theorem sg_sub' (a : Bool) (n m : Nat) (h : n ≤ m) : sg a n + sg (!a) m = sg (!a) (m - n) := by
  cases a <;> simp [sg] <;> omega
theorem rat_add_same (a : Bool) (n m d e : Nat) (hd : d ≠ 0) (he : e ≠ 0) : rat a n d + rat a m e = rat a (n * e + m * d) (d * e) := by
  unfold rat; rw [Rat.mkRat_add_mkRat _ _ hd he, sg_mul_nat, sg_mul_nat, sg_add]
theorem rat_add_more (a : Bool) (n m d e : Nat) (hd : d ≠ 0) (he : e ≠ 0) (h : m * d ≤ n * e) : rat a n d + rat (!a) m e = rat a (n * e - m * d) (d * e) := by
  unfold rat; rw [Rat.mkRat_add_mkRat _ _ hd he, sg_mul_nat, sg_mul_nat, sg_sub a _ _ h]
theorem rat_add_less (a : Bool) (n m d e : Nat) (hd : d ≠ 0) (he : e ≠ 0) (h : n * e ≤ m * d) : rat a n d + rat (!a) m e = rat (!a) (m * d - n * e) (d * e) := by
  unfold rat; rw [Rat.mkRat_add_mkRat _ _ hd he, sg_mul_nat, sg_mul_nat, sg_sub' a _ _ h]
theorem rat_scale (a : Bool) (n d k : Nat) (hk : k ≠ 0) : rat a (n * k) (d * k) = rat a n d := by
  unfold rat; rw [← sg_mul_nat, Rat.mkRat_mul_right hk]

theorem mul_parts (x y : Rat) : rat (decide (x.num < 0) != decide (y.num < 0)) (x.num.natAbs * y.num.natAbs) (x.den * y.den) = x * y := by
  rw [← rat_mul, rat_self, rat_self]
theorem add_same (x y : Rat) (h : decide (x.num < 0) = decide (y.num < 0)) : rat (decide (x.num < 0)) (x.num.natAbs * y.den + y.num.natAbs * x.den) (x.den * y.den) = x + y := by
  rw [← rat_add_same _ _ _ _ _ x.den_nz y.den_nz, rat_self, h, rat_self]
theorem add_more (x y : Rat) (h : decide (x.num < 0) = !decide (y.num < 0)) (hl : y.num.natAbs * x.den ≤ x.num.natAbs * y.den) : rat (decide (x.num < 0)) (x.num.natAbs * y.den - y.num.natAbs * x.den) (x.den * y.den) = x + y := by
  rw [← rat_add_more _ _ _ _ _ x.den_nz y.den_nz hl, rat_self]
  rw [h, Bool.not_not, rat_self]
theorem add_less (x y : Rat) (h : decide (x.num < 0) = !decide (y.num < 0)) (hl : x.num.natAbs * y.den ≤ y.num.natAbs * x.den) : rat (decide (y.num < 0)) (y.num.natAbs * x.den - x.num.natAbs * y.den) (x.den * y.den) = x + y := by
  have h' : decide (y.num < 0) = !decide (x.num < 0) := by rw [h, Bool.not_not]
  rw [h', ← rat_add_less _ _ _ _ _ x.den_nz y.den_nz hl, rat_self, ← h', rat_self]
theorem rat_cancel (a b : Bool) (n d e m : Nat) (he : e ≠ 0) (hm : m ≠ 0) : rat (a != b) (n * e) (d * m) * rat b m e = rat a n d := by
  rw [rat_mul, Nat.mul_assoc, Nat.mul_assoc, Nat.mul_comm e m, Nat.mul_comm m e, rat_scale _ _ _ _ (Nat.mul_ne_zero (by omega) (by omega))]
  cases a <;> cases b <;> rfl
theorem div_parts (x y : Rat) (hy : y ≠ 0) : rat (decide (x.num < 0) != decide (y.num < 0)) (x.num.natAbs * y.den) (x.den * y.num.natAbs) = x / y := by
  have h := rat_cancel (decide (x.num < 0)) (decide (y.num < 0)) x.num.natAbs x.den y.den y.num.natAbs y.den_nz (by rw [Ne, Int.natAbs_eq_zero, Rat.num_eq_zero]; exact hy)
  rw [rat_self, rat_self] at h
  rw [← h, Rat.mul_div_cancel hy, h]
/-- the comparison of two numbers: -1, 0, 1 -/
def cmpQ (x y : Rat) : Int := (x.num * y.den - y.num * x.den).sign
theorem cmpQ_neg (x y : Rat) : cmpQ x y = -1 ↔ x < y := by
  unfold cmpQ; rw [Rat.lt_iff, Int.sign_eq_neg_one_iff_neg]; omega
theorem cmpQ_pos (x y : Rat) : cmpQ x y = 1 ↔ y < x := by
  unfold cmpQ; rw [Rat.lt_iff, Int.sign_eq_one_iff_pos]; omega
theorem cmpQ_zero (x y : Rat) : cmpQ x y = 0 ↔ x = y := by
  unfold cmpQ; rw [Rat.eq_iff_mul_eq_mul, Int.sign_eq_zero_iff_zero]; omega
theorem cmpQ_swap (x y : Rat) : cmpQ y x = - cmpQ x y := by
  unfold cmpQ; rw [← Int.sign_neg]; congr 1; omega
theorem rat_tri (x y : Rat) : x < y ∨ x = y ∨ y < x := by
  rcases @Rat.le_total x y with h | h
  · rcases Rat.le_iff_lt_or_eq.1 h with h | h
    · exact .inl h
    · exact .inr (.inl h)
  · rcases Rat.le_iff_lt_or_eq.1 h with h | h
    · exact .inr (.inr h)
    · exact .inr (.inl h.symm)
theorem cmpQ_zero_right (x : Rat) : cmpQ x 0 = x.num.sign := by
  unfold cmpQ; simp
theorem cmpQ_sub_zero (x y : Rat) : cmpQ (x - y) 0 = cmpQ x y := by
  rcases rat_tri x y with h | h | h
  · rw [(cmpQ_neg x y).2 h, cmpQ_neg, Rat.sub_lt_iff, Rat.zero_add]; exact h
  · rw [(cmpQ_zero x y).2 h, cmpQ_zero, h, Rat.sub_self]
  · rw [(cmpQ_pos x y).2 h, cmpQ_pos]; exact (Rat.lt_iff_sub_pos y x).1 h
theorem cmpQ_sub (x y : Rat) : (x - y).num.sign = cmpQ x y := by
  rw [← cmpQ_zero_right, cmpQ_sub_zero]
/-- the comparison by signs, then by products -/
theorem cmpQ_sign (x y : Rat) (h : x.num.sign ≠ y.num.sign) : cmpQ x y = max (-1) (min 1 (x.num.sign - y.num.sign)) := by
  have hx : (0 : Int) < x.den := by have := x.den_pos; omega
  have hy : (0 : Int) < y.den := by have := y.den_pos; omega
  have e1 : (x.num * y.den).sign = x.num.sign := by rw [Int.sign_mul, Int.sign_eq_one_of_pos hy, Int.mul_one]
  have e2 : (y.num * x.den).sign = y.num.sign := by rw [Int.sign_mul, Int.sign_eq_one_of_pos hx, Int.mul_one]
  unfold cmpQ
  generalize x.num * y.den = a at *
  generalize y.num * x.den = b at *
  rw [← e1, ← e2] at h ⊢
  rcases Int.lt_trichotomy a 0 with ha | ha | ha <;> rcases Int.lt_trichotomy b 0 with hb | hb | hb
  · rw [Int.sign_eq_neg_one_of_neg ha, Int.sign_eq_neg_one_of_neg hb] at h; exact absurd rfl h
  · rw [hb, Int.sign_eq_neg_one_of_neg ha, Int.sign_eq_neg_one_of_neg (by omega)]; rfl
  · rw [Int.sign_eq_neg_one_of_neg ha, Int.sign_eq_one_of_pos hb, Int.sign_eq_neg_one_of_neg (by omega)]; rfl
  · rw [ha, Int.sign_eq_neg_one_of_neg hb, Int.sign_eq_one_of_pos (by omega)]; rfl
  · rw [ha, hb] at h; exact absurd rfl h
  · rw [ha, Int.sign_eq_one_of_pos hb, Int.sign_eq_neg_one_of_neg (by omega)]; rfl
  · rw [Int.sign_eq_one_of_pos ha, Int.sign_eq_neg_one_of_neg hb, Int.sign_eq_one_of_pos (by omega)]; rfl
  · rw [hb, Int.sign_eq_one_of_pos ha, Int.sign_eq_one_of_pos (by omega)]; rfl
  · rw [Int.sign_eq_one_of_pos ha, Int.sign_eq_one_of_pos hb] at h; exact absurd rfl h
/-- what a comparison of naturals says, cut to -1, 0, 1 -/
theorem clamp_cmp (m n : Nat) (c : Int) (h1 : c < 0 ↔ m < n) (h2 : 0 < c ↔ n < m) : max (-1) (min 1 c) = ((m : Int) - n).sign := by
  rcases Nat.lt_trichotomy m n with h | h | h
  · rw [Int.sign_eq_neg_one_of_neg (by omega)]; have := h1.2 h; omega
  · subst h; have a : ¬ c < 0 := fun e => by have := h1.1 e; omega
    have b : ¬ 0 < c := fun e => by have := h2.1 e; omega
    rw [show ((m : Int) - m) = 0 by omega]; simp; omega
  · rw [Int.sign_eq_one_of_pos (by omega)]; have := h2.2 h; omega
theorem cmpQ_same (x y : Rat) (c : Int) (h : x.num.sign = y.num.sign) (h1 : c < 0 ↔ x.num.natAbs * y.den < y.num.natAbs * x.den) (h2 : 0 < c ↔ y.num.natAbs * x.den < x.num.natAbs * y.den) :
    cmpQ x y = x.num.sign * max (-1) (min 1 c) := by
  rw [clamp_cmp _ _ c h1 h2]
  unfold cmpQ
  rcases Int.lt_trichotomy x.num 0 with hx | hx | hx
  · have sx := Int.sign_eq_neg_one_of_neg hx
    have hy : y.num < 0 := Int.sign_eq_neg_one_iff_neg.1 (h ▸ sx)
    rw [sx, show (x.num * y.den - y.num * x.den) = -(((x.num.natAbs * y.den : Nat) : Int) - ((y.num.natAbs * x.den : Nat) : Int)) by
      push_cast
      rw [show (x.num.natAbs : Int) = -x.num by omega, show (y.num.natAbs : Int) = -y.num by omega, Int.neg_mul, Int.neg_mul]; omega, Int.sign_neg]
    omega
  · have sx : x.num.sign = 0 := by rw [hx]; rfl
    have hy : y.num = 0 := Int.sign_eq_zero_iff_zero.1 (h ▸ sx)
    rw [hx, hy]; simp
  · have sx := Int.sign_eq_one_of_pos hx
    have hy : 0 < y.num := Int.sign_eq_one_iff_pos.1 (h ▸ sx)
    rw [sx, show (x.num * y.den - y.num * x.den) = (((x.num.natAbs * y.den : Nat) : Int) - ((y.num.natAbs * x.den : Nat) : Int)) by
      push_cast
      rw [show (x.num.natAbs : Int) = x.num by omega, show (y.num.natAbs : Int) = y.num by omega]]
    omega
end Go.Proofs.YtpgdefgdboijlaaGreatDoor
