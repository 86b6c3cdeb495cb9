/- Plain laws: a number that is rounded to n bits. -/
import Derived.Test.YtpgdefgdboijlaaGreatDoorNj
namespace Go.Proofs.YtpgdefgdboijlaaGreatDoor
set_option linter.unusedVariables false
/-- powers of two -/
def P2 (k : Int) : Rat := (2 : Rat) ^ k
theorem p2_pos (k : Int) : 0 < P2 k := Rat.zpow_pos (by decide)
theorem p2_ne (k : Int) : P2 k ≠ 0 := fun h => by have := p2_pos k; rw [h] at this; exact absurd this (by decide)
theorem p2_add (a b : Int) : P2 (a + b) = P2 a * P2 b := Rat.zpow_add (by decide) a b
theorem p2_zero : P2 0 = 1 := Rat.zpow_zero 2
theorem p2_inv (k : Int) : P2 k * P2 (-k) = 1 := by rw [← p2_add, Int.add_right_neg, p2_zero]
theorem p2_nat (n : Nat) : P2 n = ((2 ^ n : Nat) : Rat) := by
  unfold P2; rw [Rat.zpow_natCast, Rat.natCast_pow]; rfl
theorem p2_one : P2 1 = 2 := by have := p2_nat 1; simpa using this
theorem rat_nat (n : Nat) : rat false n 1 = (n : Rat) := by
  have h := rat_self (n : Rat)
  have e : decide (((n : Rat)).num < 0) = false := by
    rw [decide_eq_false_iff_not]
    show ¬ ((n : Int) < 0)
    omega
  rw [e] at h
  simpa using h
theorem rat_inv (d : Nat) (hd : d ≠ 0) : rat false 1 d * (d : Rat) = 1 := by
  rw [← rat_nat d, rat_mul]
  have := rat_scale false 1 1 d hd
  simp only [Nat.one_mul, Nat.mul_one] at this ⊢
  show rat false d d = 1
  rw [this, rat_nat]; rfl
theorem inv_unique {a b c : Rat} (h : a * b = 1) (k : c * b = 1) : a = c := by
  have h1 : a * b * c = c := by rw [h, Rat.one_mul]
  rw [Rat.mul_assoc, Rat.mul_comm b c, k, Rat.mul_one] at h1
  exact h1
theorem sh_p2 (x : Rat) (k : Int) : shQ x k = x * P2 k := by
  unfold shQ
  have hs := rat_self x
  split
  · rename_i h
    have e : P2 k = rat false 1 (2 ^ k.natAbs) := by
      refine inv_unique (p2_inv k) ?_
      have h2 : P2 (-k) = ((2 ^ k.natAbs : Nat) : Rat) := by
        rw [show -k = (k.natAbs : Int) by omega]; exact p2_nat _
      rw [h2]; exact rat_inv _ (Nat.ne_of_gt (Nat.pow_pos (by decide)))
    rw [e]
    conv => rhs; lhs; rw [← hs]
    rw [rat_mul]; simp
  · rename_i h
    have e : P2 k = rat false (2 ^ k.natAbs) 1 := by
      rw [rat_nat, ← p2_nat, show (k.natAbs : Int) = k by omega]
    rw [e]
    conv => rhs; lhs; rw [← hs]
    rw [rat_mul]; simp

theorem num_cast (x : Rat) : ((x.num : Int) : Rat) = x * (x.den : Rat) := by
  have h := Rat.mkRat_eq_div x.num x.den
  rw [Rat.mkRat_self] at h
  conv => rhs; lhs; rw [h]
  rw [Rat.div_mul_cancel]
  exact_mod_cast x.den_nz
theorem den_pos' (x : Rat) : (0 : Rat) < (x.den : Rat) := by exact_mod_cast x.den_pos
theorem absQ_cast (x : Rat) : ((x.num.natAbs : Nat) : Rat) = absQ x * (x.den : Rat) := by
  unfold absQ
  have h := num_cast x
  split
  · rename_i h1
    rw [show ((x.num.natAbs : Nat) : Rat) = ((x.num.natAbs : Int) : Rat) from rfl, show ((x.num.natAbs : Nat) : Int) = -x.num by omega, Rat.intCast_neg, h, Rat.neg_mul]
  · rename_i h1
    rw [show ((x.num.natAbs : Nat) : Rat) = ((x.num.natAbs : Int) : Rat) from rfl, show ((x.num.natAbs : Nat) : Int) = x.num by omega, h]
theorem bl_low {n : Nat} (h : n ≠ 0) : 2 ^ bl n ≤ 2 * n := by
  unfold bl; rw [if_neg h, Nat.pow_succ]
  have := Nat.log2_self_le h
  omega
theorem bl_high (n : Nat) : n < 2 ^ bl n := by
  unfold bl
  split
  · rename_i h; subst h; decide
  · exact Nat.lt_log2_self
theorem logN_up {n d k : Nat} (hn : n ≠ 0) (hd : d ≠ 0) (h : bl d + k = bl n) : d * 2 ^ k < 2 * n ∧ n < d * 2 ^ k * 2 := by
  have h1 := bl_low hn
  have h2 := bl_high n
  have h3 := bl_low hd
  have h4 := bl_high d
  rw [← h, Nat.pow_add] at h1 h2
  have hp : 0 < 2 ^ k := Nat.pow_pos (by decide)
  constructor
  · exact Nat.lt_of_lt_of_le ((Nat.mul_lt_mul_right hp).2 h4) h1
  · have := Nat.mul_le_mul_right (2 ^ k) h3
    have e : 2 * d * 2 ^ k = d * 2 ^ k * 2 := by rw [Nat.mul_comm 2 d, Nat.mul_assoc, Nat.mul_comm 2, ← Nat.mul_assoc]
    omega
/-- the logarithm of a number that is not 0 -/
theorem log_spec (x : Rat) (h0 : x ≠ 0) : P2 (logQ x) ≤ absQ x ∧ absQ x < P2 (logQ x + 1) := by
  have hn : x.num.natAbs ≠ 0 := by
    have : x.num ≠ 0 := by simpa using h0
    omega
  have hd := x.den_nz
  have hA := absQ_cast x
  have hD := den_pos' x
  generalize absQ x = a at *
  unfold logQ
  generalize x.num.natAbs = n at *
  generalize x.den = d at *
  have hp1 : ∀ k, P2 (k + 1) = P2 k * 2 := fun k => by rw [p2_add, p2_one]
  have hs : ∀ k : Int, P2 k = P2 (k - 1) * 2 := fun k => by rw [← hp1]; congr 1; omega
  unfold logN
  split
  · rename_i hb
    obtain ⟨k, hk⟩ : ∃ k, bl n - bl d = k := ⟨_, rfl⟩
    rw [hk]
    obtain ⟨q1, q2⟩ := logN_up hn hd (k := k) (by omega)
    have c1 : (d : Rat) * P2 k < 2 * (n : Rat) := by rw [p2_nat]; exact_mod_cast q1
    have c2 : (n : Rat) < (d : Rat) * P2 k * 2 := by rw [p2_nat]; exact_mod_cast q2
    split
    · rename_i h
      have c3 : (n : Rat) < (d : Rat) * P2 k := by rw [p2_nat]; exact_mod_cast h
      have e1 := hs k
      have e2 : P2 ((k : Int) - 1 + 1) = P2 k := by congr 1; omega
      rw [e2]
      constructor
      · refine Rat.le_of_mul_le_mul_right (c := (d : Rat)) ?_ hD
        rw [e1] at c1
        clear hp1 hs hk hb h q1 q2 hn hd h0; grind
      · refine Rat.lt_of_mul_lt_mul_right (c := (d : Rat)) ?_ (Rat.le_of_lt hD)
        clear hp1 hs hk hb h q1 q2 hn hd h0; grind
    · rename_i h
      have c3 : (d : Rat) * P2 k ≤ (n : Rat) := by rw [p2_nat]; exact_mod_cast Nat.le_of_not_lt h
      have e1 := hp1 k
      rw [e1]
      constructor
      · refine Rat.le_of_mul_le_mul_right (c := (d : Rat)) ?_ hD
        clear hp1 hs hk hb h q1 q2 hn hd h0; grind
      · refine Rat.lt_of_mul_lt_mul_right (c := (d : Rat)) ?_ (Rat.le_of_lt hD)
        clear hp1 hs hk hb h q1 q2 hn hd h0; grind
  · rename_i hb
    obtain ⟨k, hk⟩ : ∃ k, bl d - bl n = k := ⟨_, rfl⟩
    rw [hk]
    obtain ⟨q1, q2⟩ := logN_up hd hn (k := k) (by omega)
    have c1 : (n : Rat) * P2 k < 2 * (d : Rat) := by rw [p2_nat]; exact_mod_cast q1
    have c2 : (d : Rat) < (n : Rat) * P2 k * 2 := by rw [p2_nat]; exact_mod_cast q2
    have hpk := p2_pos k
    have hinv := p2_inv k
    split
    · rename_i h
      have c3 : (n : Rat) * P2 k < (d : Rat) := by rw [p2_nat]; exact_mod_cast h
      have e1 := hs (-(k : Int))
      have e2 : P2 (-(k : Int) - 1 + 1) = P2 (-(k : Int)) := by congr 1; omega
      rw [e2]
      constructor
      · refine Rat.le_of_mul_le_mul_right (c := (d : Rat) * P2 k) ?_ (Rat.mul_pos hD hpk)
        clear hp1 hs hk hb h q1 q2 hn hd h0; generalize (n : Rat) = N at *; generalize (d : Rat) = D at *; generalize P2 (-(k : Int) - 1) = r at *; generalize P2 (-(k : Int)) = s at *; generalize P2 (k : Int) = p at *
        have f1 : r * (D * p) * 2 = D := by
          have : r * (D * p) * 2 = D * (p * (r * 2)) := by grind
          rw [this, ← e1, hinv, Rat.mul_one]
        have f2 : a * (D * p) = N * p := by rw [hA]; grind
        clear e1 e2 hinv hA
        rw [f2]
        generalize r * (D * p) = z at *
        generalize N * p = y at *
        grind
      · refine Rat.lt_of_mul_lt_mul_right (c := (d : Rat) * P2 k) ?_ (Rat.le_of_lt (Rat.mul_pos hD hpk))
        clear hp1 hs hk hb h q1 q2 hn hd h0; generalize (n : Rat) = N at *; generalize (d : Rat) = D at *; generalize P2 (-(k : Int)) = s at *; generalize P2 (k : Int) = p at *
        have f1 : s * (D * p) = D := by
          have : s * (D * p) = D * (p * s) := by grind
          rw [this, hinv, Rat.mul_one]
        have f2 : a * (D * p) = N * p := by rw [hA]; grind
        have f3 : s * 2 * (D * p) = D * 2 := by
          have : s * 2 * (D * p) = s * (D * p) * 2 := by grind
          rw [this, f1]
        clear e1 hinv hA
        (try rw [f3]); (try rw [f1]); rw [f2]
        clear f1 f2 f3
        generalize N * p = y at *
        grind
    · rename_i h
      have c3 : (d : Rat) ≤ (n : Rat) * P2 k := by rw [p2_nat]; exact_mod_cast Nat.le_of_not_lt h
      have e1 := hp1 (-(k : Int))
      rw [e1]
      constructor
      · refine Rat.le_of_mul_le_mul_right (c := (d : Rat) * P2 k) ?_ (Rat.mul_pos hD hpk)
        clear hp1 hs hk hb h q1 q2 hn hd h0; generalize (n : Rat) = N at *; generalize (d : Rat) = D at *; generalize P2 (-(k : Int)) = s at *; generalize P2 (k : Int) = p at *
        have f1 : s * (D * p) = D := by
          have : s * (D * p) = D * (p * s) := by grind
          rw [this, hinv, Rat.mul_one]
        have f2 : a * (D * p) = N * p := by rw [hA]; grind
        have f3 : s * 2 * (D * p) = D * 2 := by
          have : s * 2 * (D * p) = s * (D * p) * 2 := by grind
          rw [this, f1]
        clear e1 hinv hA
        (try rw [f3]); (try rw [f1]); rw [f2]
        clear f1 f2 f3
        generalize N * p = y at *
        grind
      · refine Rat.lt_of_mul_lt_mul_right (c := (d : Rat) * P2 k) ?_ (Rat.le_of_lt (Rat.mul_pos hD hpk))
        clear hp1 hs hk hb h q1 q2 hn hd h0; generalize (n : Rat) = N at *; generalize (d : Rat) = D at *; generalize P2 (-(k : Int)) = s at *; generalize P2 (k : Int) = p at *
        have f1 : s * (D * p) = D := by
          have : s * (D * p) = D * (p * s) := by grind
          rw [this, hinv, Rat.mul_one]
        have f2 : a * (D * p) = N * p := by rw [hA]; grind
        have f3 : s * 2 * (D * p) = D * 2 := by
          have : s * 2 * (D * p) = s * (D * p) * 2 := by grind
          rw [this, f1]
        clear e1 hinv hA
        (try rw [f3]); (try rw [f1]); rw [f2]
        clear f1 f2 f3
        generalize N * p = y at *
        grind
theorem num_neg' {x : Rat} : x.num < 0 ↔ x < 0 := by
  have := @Rat.num_nonneg x
  rw [← Rat.not_le, ← this]
  omega
theorem absQ_pos {x : Rat} (h : 0 ≤ x) : absQ x = x := by
  unfold absQ
  rw [if_neg]
  have := Rat.num_nonneg.2 h
  omega
theorem absQ_neg {x : Rat} (h : x < 0) : absQ x = -x := by
  unfold absQ
  rw [if_pos]
  exact num_neg'.2 h
theorem p2_le {a b : Int} (h : a ≤ b) : P2 a ≤ P2 b := by
  have e : b = a + ((b - a).toNat : Int) := by omega
  rw [e, p2_add, p2_nat]
  have h1 : (1 : Rat) ≤ ((2 ^ (b - a).toNat : Nat) : Rat) := by
    have : 1 ≤ 2 ^ (b - a).toNat := Nat.one_le_two_pow
    exact_mod_cast this
  have := Rat.mul_le_mul_of_nonneg_left h1 (Rat.le_of_lt (p2_pos a))
  rw [Rat.mul_one] at this
  exact this
theorem p2_lt {a b : Int} (h : P2 a < P2 b) : a < b := by
  apply Classical.byContradiction
  intro h1
  have := p2_le (show b ≤ a by omega)
  exact absurd h (Rat.not_lt.2 this)
theorem log_unique {x : Rat} (h0 : x ≠ 0) {L : Int} (h1 : P2 L ≤ absQ x) (h2 : absQ x < P2 (L + 1)) : logQ x = L := by
  obtain ⟨k1, k2⟩ := log_spec x h0
  have a1 := p2_lt (Std.lt_of_le_of_lt h1 k2)
  have a2 := p2_lt (Std.lt_of_le_of_lt k1 h2)
  omega
theorem rat_one (b : Bool) (m : Nat) : rat b m 1 = ((sg b m : Int) : Rat) := by
  unfold rat
  rw [Rat.mkRat_eq_div]
  show ((sg b m : Int) : Rat) / 1 = _
  rw [Rat.div_def, show (1 : Rat)⁻¹ = 1 by decide +kernel, Rat.mul_one]
theorem whole_floor (x : Rat) : wholeQ x (decide (x.num < 0)) = ((x.floor : Int) : Rat) := by
  unfold wholeQ
  rw [rat_one, Rat.floor_def]
  congr 1
  have hd := x.den_pos
  generalize x.num = z
  generalize x.den = d at *
  by_cases h : z < 0
  · rw [decide_eq_true h]
    obtain ⟨n, rfl⟩ : ∃ n : Nat, z = -(n : Int) := ⟨z.natAbs, by omega⟩
    rw [Int.neg_ediv]
    unfold sg wholeN
    rw [if_pos rfl, Int.natAbs_neg, Int.natAbs_natCast]
    have e : ((d : Int) ∣ (n : Int)) ↔ n % d = 0 := by
      rw [Int.natCast_dvd_natCast]; exact Nat.dvd_iff_mod_eq_zero
    have es : (d : Int).sign = 1 := Int.sign_eq_one_of_pos (by omega)
    by_cases hm : n % d = 0
    · rw [if_neg (by simp [hm]), if_pos (e.2 hm)]; simp
    · rw [if_pos ⟨rfl, hm⟩, if_neg (fun hh => hm (e.1 hh)), es]
      push_cast; omega
  · rw [decide_eq_false h]
    obtain ⟨n, rfl⟩ : ∃ n : Nat, z = (n : Int) := ⟨z.natAbs, by omega⟩
    unfold sg wholeN
    simp
theorem whole_ceil (x : Rat) : wholeQ x (!decide (x.num < 0)) = ((x.ceil : Int) : Rat) := by
  unfold wholeQ
  rw [rat_one, Rat.ceil_eq_neg_floor_neg, Rat.floor_def, Rat.neg_num, Rat.neg_den]
  congr 1
  have hd := x.den_pos
  generalize x.num = z
  generalize x.den = d at *
  by_cases h : z < 0
  · rw [decide_eq_true h]
    obtain ⟨n, rfl⟩ : ∃ n : Nat, z = -(n : Int) := ⟨z.natAbs, by omega⟩
    unfold sg wholeN
    simp
  · rw [decide_eq_false h]
    obtain ⟨n, rfl⟩ : ∃ n : Nat, z = (n : Int) := ⟨z.natAbs, by omega⟩
    rw [Int.neg_ediv]
    unfold sg wholeN
    rw [if_neg (by simp), Int.natAbs_natCast]
    have e : ((d : Int) ∣ (n : Int)) ↔ n % d = 0 := by
      rw [Int.natCast_dvd_natCast]; exact Nat.dvd_iff_mod_eq_zero
    have es : (d : Int).sign = 1 := Int.sign_eq_one_of_pos (by omega)
    by_cases hm : n % d = 0
    · rw [if_neg (by simp [hm]), if_pos (e.2 hm)]; simp
    · rw [if_pos ⟨rfl, hm⟩, if_neg (fun hh => hm (e.1 hh)), es]
      push_cast; omega
theorem neg_p2 (x : Rat) (k : Int) : decide ((x * P2 k).num < 0) = decide (x.num < 0) := by
  have h := p2_pos k
  have : (x * P2 k).num < 0 ↔ x.num < 0 := by
    rw [num_neg', num_neg', Rat.mul_comm]
    exact Rat.mul_neg_iff_of_pos_left h
  simp only [this]
theorem down_floor (x : Rat) (bits : Int) (h0 : x ≠ 0) : roundQ x bits (decide (x.num < 0)) = (((x * P2 (-(stepQ x bits))).floor : Int) : Rat) * P2 (stepQ x bits) := by
  unfold roundQ
  rw [if_neg h0, sh_p2, sh_p2, ← neg_p2 x (-(stepQ x bits)), whole_floor]
theorem up_ceil (x : Rat) (bits : Int) (h0 : x ≠ 0) : roundQ x bits (!decide (x.num < 0)) = (((x * P2 (-(stepQ x bits))).ceil : Int) : Rat) * P2 (stepQ x bits) := by
  unfold roundQ
  rw [if_neg h0, sh_p2, sh_p2, ← neg_p2 x (-(stepQ x bits)), whole_ceil]
theorem mul_ne' {a b : Rat} (h : a ≠ 0) (k : b ≠ 0) : a * b ≠ 0 := fun e => by
  rcases Rat.mul_eq_zero.1 e with e | e
  · exact h e
  · exact k e
theorem step_n {x : Rat} {n : Int} (h1 : 1 ≤ n) (h2 : n ≤ 2000) : stepQ x n = logQ x - n + 1 := by unfold stepQ; omega
theorem p2_mul_neg (a : Rat) (s : Int) : a * P2 s * P2 (-s) = a := by rw [Rat.mul_assoc, p2_inv, Rat.mul_one]
theorem p2_mul_neg' (a : Rat) (s : Int) : a * P2 (-s) * P2 s = a := by rw [Rat.mul_assoc, Rat.mul_comm (P2 (-s)), p2_inv, Rat.mul_one]
theorem p2_toNat {n : Int} (h : 0 ≤ n) : P2 n = (((2 ^ n.toNat : Nat) : Int) : Rat) := by
  conv => lhs; rw [show n = (n.toNat : Int) by omega]
  rw [p2_nat]; rfl
/-- |k| -/
theorem abs_mul_p2 (y : Rat) (s : Int) : absQ (y * P2 s) = absQ y * P2 s := by
  have h := neg_p2 y s
  unfold absQ
  by_cases hn : y.num < 0
  · rw [if_pos hn, if_pos (by simpa [hn] using h), Rat.neg_mul]
  · rw [if_neg hn, if_neg (by simpa [hn] using h)]
theorem abs_le {y b : Rat} : absQ y ≤ b ↔ y ≤ b ∧ -y ≤ b := by
  by_cases h : y < 0
  · rw [absQ_neg h]; grind
  · rw [absQ_pos (Rat.not_lt.1 h)]; grind
theorem abs_lt {y b : Rat} : absQ y < b ↔ y < b ∧ -y < b := by
  by_cases h : y < 0
  · rw [absQ_neg h]; grind
  · rw [absQ_pos (Rat.not_lt.1 h)]; grind
theorem le_abs {y b : Rat} : b ≤ absQ y ↔ b ≤ y ∨ b ≤ -y := by
  by_cases h : y < 0
  · rw [absQ_neg h]; grind
  · rw [absQ_pos (Rat.not_lt.1 h)]; grind
/-- numbers of so few bits stay -/
theorem fixed (k s n : Int) (h1 : 1 ≤ n) (h2 : n ≤ 2000) (h0 : k ≠ 0) (hk : absQ ((k : Rat)) ≤ P2 n) :
    ∃ j : Int, (k : Rat) * P2 s * P2 (-(stepQ ((k : Rat) * P2 s) n)) = ((j : Int) : Rat) := by
  have hkr : (k : Rat) ≠ 0 := by exact_mod_cast h0
  have hx : (k : Rat) * P2 s ≠ 0 := mul_ne' hkr (p2_ne s)
  obtain ⟨q1, q2⟩ := log_spec _ hx
  rw [step_n h1 h2]
  generalize logQ ((k : Rat) * P2 s) = L at *
  rw [abs_mul_p2] at q1 q2
  have q3 : P2 L ≤ P2 (n + s) := by
    rw [p2_add]
    exact Rat.le_trans q1 (Rat.mul_le_mul_of_nonneg_right hk (Rat.le_of_lt (p2_pos s)))
  have hL : L ≤ n + s := by
    apply Classical.byContradiction
    intro hc
    have := p2_le (show n + s + 1 ≤ L by omega)
    have e : P2 (n + s + 1) = P2 (n + s) * 2 := by rw [p2_add, p2_one]
    have := p2_pos (n + s)
    grind
  rw [Rat.mul_assoc, ← p2_add]
  rcases Int.lt_or_eq_of_le hL with h | h
  · refine ⟨k * ((2 ^ (s + -(L - n + 1)).toNat : Nat) : Int), ?_⟩
    rw [p2_toNat (by omega), Rat.intCast_mul]
  · subst h
    have e1 : P2 n ≤ absQ (k : Rat) := by
      rw [p2_add] at q1
      exact Rat.le_of_mul_le_mul_right q1 (p2_pos s)
    have e2 : absQ (k : Rat) = P2 n := Rat.le_antisymm hk e1
    have e3 : P2 n = P2 (n - 1) * 2 := by rw [← p2_one, ← p2_add]; congr 1; omega
    have e4 : s + -(n + s - n + 1) = -1 := by omega
    have e5 : P2 (-1) * 2 = 1 := by rw [← p2_one, ← p2_add]; exact p2_zero
    rw [e4]
    by_cases hs : (k : Rat) < 0
    · rw [absQ_neg hs] at e2
      refine ⟨-((2 ^ (n - 1).toNat : Nat) : Int), ?_⟩
      rw [Rat.intCast_neg, ← p2_toNat (by omega)]
      generalize P2 (-1) = u at *
      generalize P2 (n - 1) = v at *
      have : (k : Rat) = -(v * 2) := by grind
      rw [this]
      have : -(v * 2) * u = - (v * (u * 2)) := by grind
      rw [this, e5, Rat.mul_one]
    · rw [absQ_pos (Rat.not_lt.1 hs)] at e2
      refine ⟨((2 ^ (n - 1).toNat : Nat) : Int), ?_⟩
      rw [← p2_toNat (by omega)]
      generalize P2 (-1) = u at *
      generalize P2 (n - 1) = v at *
      have : (k : Rat) = (v * 2) := by grind
      rw [this]
      have : (v * 2) * u = (v * (u * 2)) := by grind
      rw [this, e5, Rat.mul_one]
theorem down_fixed (k s n : Int) (h1 : 1 ≤ n) (h2 : n ≤ 2000) (h0 : k ≠ 0) (hk : absQ ((k : Rat)) ≤ P2 n) :
    roundQ ((k : Rat) * P2 s) n (decide (((k : Rat) * P2 s).num < 0)) = (k : Rat) * P2 s := by
  have hkr : (k : Rat) ≠ 0 := by exact_mod_cast h0
  have hx : (k : Rat) * P2 s ≠ 0 := mul_ne' hkr (p2_ne s)
  obtain ⟨j, hj⟩ := fixed k s n h1 h2 h0 hk
  rw [down_floor _ _ hx, hj, Rat.floor_intCast, ← hj, p2_mul_neg']
theorem up_fixed (k s n : Int) (h1 : 1 ≤ n) (h2 : n ≤ 2000) (h0 : k ≠ 0) (hk : absQ ((k : Rat)) ≤ P2 n) :
    roundQ ((k : Rat) * P2 s) n (!decide (((k : Rat) * P2 s).num < 0)) = (k : Rat) * P2 s := by
  have hkr : (k : Rat) ≠ 0 := by exact_mod_cast h0
  have hx : (k : Rat) * P2 s ≠ 0 := mul_ne' hkr (p2_ne s)
  obtain ⟨j, hj⟩ := fixed k s n h1 h2 h0 hk
  rw [up_ceil _ _ hx, hj, Rat.ceil_intCast, ← hj, p2_mul_neg']
def downQ (x : Rat) (n : Int) : Rat := roundQ x n (decide (x.num < 0))
def upQ (x : Rat) (n : Int) : Rat := roundQ x n (!decide (x.num < 0))
theorem round_zero (n : Int) (b : Bool) : roundQ 0 n b = 0 := by unfold roundQ; rw [if_pos rfl]
theorem abs_neg' (x : Rat) : absQ (-x) = absQ x := by
  rcases rat_tri x 0 with h | h | h
  · rw [absQ_neg h, absQ_pos (by grind)]
  · subst h; rfl
  · rw [absQ_pos (Rat.le_of_lt h), absQ_neg (by grind)]; grind
theorem log_neg (x : Rat) (h0 : x ≠ 0) : logQ (-x) = logQ x := by
  obtain ⟨q1, q2⟩ := log_spec x h0
  exact log_unique (fun e => h0 (by grind)) (by rw [abs_neg']; exact q1) (by rw [abs_neg']; exact q2)
/-- everything about rounding to n bits, at one number that is not 0 -/
theorem near_main (x : Rat) (h0 : x ≠ 0) (n : Int) (h1 : 1 ≤ n) (h2 : n < 2000) :
    ∃ (s K C : Int) (y : Rat), x = y * P2 s ∧ downQ x n = (K : Rat) * P2 s ∧ upQ x n = (C : Rat) * P2 s ∧
      (K : Rat) ≤ y ∧ y < (K : Rat) + 1 ∧ y ≤ (C : Rat) ∧ (C : Rat) < y + 1 ∧
      downQ x (n + 1) = (((y * 2).floor : Int) : Rat) * P2 (s - 1) ∧ upQ x (n + 1) = (((y * 2).ceil : Int) : Rat) * P2 (s - 1) ∧
      upQ (-x) n = ((-K : Int) : Rat) * P2 s ∧ P2 (n - 1) ≤ absQ y ∧ absQ y < P2 n := by
  obtain ⟨q1, q2⟩ := log_spec x h0
  obtain ⟨s, hs⟩ : ∃ s, s = logQ x - n + 1 := ⟨_, rfl⟩
  obtain ⟨y, hy⟩ : ∃ y, y = x * P2 (-s) := ⟨_, rfl⟩
  have hxy : x = y * P2 s := by rw [hy, p2_mul_neg']
  have hst : stepQ x n = s := by rw [step_n h1 (by omega), hs]
  have hst1 : stepQ x (n + 1) = s - 1 := by rw [step_n (by omega) (by omega), hs]; omega
  have hnx : -x ≠ 0 := fun e => h0 (by grind)
  have hstn : stepQ (-x) n = s := by rw [step_n h1 (by omega), log_neg x h0, hs]
  have hp2 : P2 (-(s - 1)) = P2 (-s) * 2 := by rw [show -(s - 1) = -s + 1 by omega, p2_add, p2_one]
  refine ⟨s, y.floor, y.ceil, y, hxy, ?_, ?_, Rat.floor_le y, ?_, Rat.le_ceil, Rat.ceil_lt, ?_, ?_, ?_, ?_, ?_⟩
  · unfold downQ; rw [down_floor x n h0, hst, hy]
  · unfold upQ; rw [up_ceil x n h0, hst, hy]
  · have := Rat.lt_floor_add_one y
    rw [Rat.intCast_add] at this
    exact this
  · unfold downQ; rw [down_floor x _ h0, hst1, hp2, ← Rat.mul_assoc, ← hy]
  · unfold upQ; rw [up_ceil x _ h0, hst1, hp2, ← Rat.mul_assoc, ← hy]
  · unfold upQ; rw [up_ceil (-x) n hnx, hstn, Rat.neg_mul, ← hy, Rat.ceil_eq_neg_floor_neg, Rat.neg_neg]
  · have e : absQ y * P2 s = absQ x := by rw [hxy, abs_mul_p2]
    have e2 : P2 (n - 1) * P2 s = P2 (logQ x) := by rw [← p2_add]; congr 1; omega
    refine Rat.le_of_mul_le_mul_right (c := P2 s) ?_ (p2_pos s)
    rw [e, e2]; exact q1
  · have e : absQ y * P2 s = absQ x := by rw [hxy, abs_mul_p2]
    have e2 : P2 n * P2 s = P2 (logQ x + 1) := by rw [← p2_add]; congr 1; omega
    refine Rat.lt_of_mul_lt_mul_right (c := P2 s) ?_ (Rat.le_of_lt (p2_pos s))
    rw [e, e2]; exact q2
theorem near_order (x : Rat) (n : Int) (h1 : 1 ≤ n) (h2 : n < 2000) :
    downQ x n ≤ downQ x (n + 1) ∧ downQ x (n + 1) ≤ x ∧ x ≤ upQ x (n + 1) ∧ upQ x (n + 1) ≤ upQ x n ∧ -(downQ x n) = upQ (-x) n := by
  by_cases h0 : x = 0
  · subst h0
    unfold downQ upQ
    rw [show (-0 : Rat) = 0 by decide +kernel]
    simp only [round_zero]
    exact ⟨Rat.le_refl, Rat.le_refl, Rat.le_refl, Rat.le_refl, by decide +kernel⟩
  obtain ⟨s, K, C, y, rfl, e1, e2, k1, k2, k3, k4, e3, e4, e5, -, -⟩ := near_main x h0 n h1 h2
  rw [e1, e2, e3, e4, e5]
  have hp := p2_pos (s - 1)
  have hps : P2 s = P2 (s - 1) * 2 := by rw [← p2_one, ← p2_add]; congr 1; omega
  rw [hps]
  have f1 : 2 * K ≤ (y * 2).floor := by
    rw [Rat.le_floor_iff, Rat.intCast_mul]
    show (2 : Rat) * (K : Rat) ≤ y * 2
    grind
  have f2 : (y * 2).ceil ≤ 2 * C := by
    rw [Rat.ceil_le_iff, Rat.intCast_mul]
    show y * 2 ≤ (2 : Rat) * (C : Rat)
    grind
  have g1 := Rat.floor_le (y * 2)
  have g2 := @Rat.le_ceil (y * 2)
  have f1' : (2 : Rat) * (K : Rat) ≤ (((y * 2).floor : Int) : Rat) := by exact_mod_cast f1
  have f2' : (((y * 2).ceil : Int) : Rat) ≤ (2 : Rat) * (C : Rat) := by exact_mod_cast f2
  generalize (((y * 2).floor : Int) : Rat) = F at *
  generalize (((y * 2).ceil : Int) : Rat) = G at *
  generalize P2 (s - 1) = p at *
  have m1 := Rat.mul_le_mul_of_nonneg_right f1' (Rat.le_of_lt hp)
  have m2 := Rat.mul_le_mul_of_nonneg_right f2' (Rat.le_of_lt hp)
  have m3 := Rat.mul_le_mul_of_nonneg_right g1 (Rat.le_of_lt hp)
  have m4 := Rat.mul_le_mul_of_nonneg_right g2 (Rat.le_of_lt hp)
  rw [Rat.intCast_neg]
  clear e1 e2 e3 e4 e5 h0 f1 f2 g1 g2 f1' f2' k1 k2 k3 k4
  refine ⟨by grind, by grind, by grind, by grind, by grind⟩
end Go.Proofs.YtpgdefgdboijlaaGreatDoor
