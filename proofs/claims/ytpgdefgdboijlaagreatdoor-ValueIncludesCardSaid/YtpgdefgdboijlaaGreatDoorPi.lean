/- Plain laws of spans: results of numbers are in the results of their spans. -/
import Derived.Test.YtpgdefgdboijlaaGreatDoorV0
namespace Go.Proofs.YtpgdefgdboijlaaGreatDoor
set_option linter.unusedVariables false
/-- between two numbers, whatever their order -/
def Btw (a b y : Rat) : Prop := (a ≤ y ∧ y ≤ b) ∨ (b ≤ y ∧ y ≤ a)
/-- in the span whose sorted ends these are -/
def InS (s : Rat × Rat) (y : Rat) : Prop := s.1 ≤ y ∧ y ≤ s.2
theorem in_sort {a b y : Rat} : InS (sortQ a b) y ↔ Btw a b y := by
  unfold InS sortQ Btw
  split <;> dsimp only <;> grind
theorem btw_mul {a b y : Rat} (h : Btw a b y) (z : Rat) : Btw (a * z) (b * z) (y * z) := by
  have key : ∀ p q : Rat, p ≤ q → (0 ≤ z → p * z ≤ q * z) ∧ (z ≤ 0 → q * z ≤ p * z) := fun p q hpq => by
    refine ⟨fun hz => Rat.mul_le_mul_of_nonneg_right hpq hz, fun hz => ?_⟩
    have := Rat.mul_le_mul_of_nonneg_right hpq (show (0 : Rat) ≤ -z by grind)
    grind
  unfold Btw at *
  rcases h with ⟨h1, h2⟩ | ⟨h1, h2⟩ <;> have k1 := key _ _ h1 <;> have k2 := key _ _ h2 <;> rcases @Rat.le_total z 0 with hz | hz
  · exact .inr ⟨k2.2 hz, k1.2 hz⟩
  · exact .inl ⟨k1.1 hz, k2.1 hz⟩
  · exact .inl ⟨k2.2 hz, k1.2 hz⟩
  · exact .inr ⟨k1.1 hz, k2.1 hz⟩
theorem btw_mul' {a b y : Rat} (h : Btw a b y) (z : Rat) : Btw (z * a) (z * b) (z * y) := by
  rw [Rat.mul_comm z a, Rat.mul_comm z b, Rat.mul_comm z y]; exact btw_mul h z
/-- the span of both -/
def joinQ (s t : Rat × Rat) : Rat × Rat := (minQ s.1 t.1, maxQ s.2 t.2)
theorem join_left {s t : Rat × Rat} {y : Rat} (h : InS s y) : InS (joinQ s t) y := by
  unfold InS joinQ minQ maxQ at *
  dsimp only
  split <;> split <;> grind
theorem join_right {s t : Rat × Rat} {y : Rat} (h : InS t y) : InS (joinQ s t) y := by
  unfold InS joinQ minQ maxQ at *
  dsimp only
  split <;> split <;> grind
/-- the products of two spans, by their given ends -/
def mulS (a b c d : Rat) : Rat × Rat := joinQ (sortQ (a * c) (a * d)) (sortQ (b * c) (b * d))
theorem ins_btw {s : Rat × Rat} {p q y : Rat} (h1 : InS s p) (h2 : InS s q) (h : Btw p q y) : InS s y := by
  unfold InS Btw at *; grind
theorem mul_in {a b c d y z : Rat} (hy : Btw a b y) (hz : Btw c d z) : InS (mulS a b c d) (y * z) := by
  unfold mulS
  have h1 : InS (joinQ (sortQ (a * c) (a * d)) (sortQ (b * c) (b * d))) (a * z) := join_left (in_sort.2 (btw_mul' hz a))
  have h2 : InS (joinQ (sortQ (a * c) (a * d)) (sortQ (b * c) (b * d))) (b * z) := join_right (in_sort.2 (btw_mul' hz b))
  exact ins_btw h1 h2 (btw_mul hy z)
theorem btw_left (a b : Rat) : Btw a b a := by unfold Btw; grind
theorem btw_right (a b : Rat) : Btw a b b := by unfold Btw; grind
theorem btw_same {a y : Rat} : Btw a a y ↔ y = a := by unfold Btw; grind
/-- what is in the span of a join is between numbers that are in another -/
theorem sort_ends (a b : Rat) : ((sortQ a b).1 = a ∧ (sortQ a b).2 = b) ∨ ((sortQ a b).1 = b ∧ (sortQ a b).2 = a) := by
  unfold sortQ; split
  · exact .inr ⟨rfl, rfl⟩
  · exact .inl ⟨rfl, rfl⟩
theorem join_ends (s t : Rat × Rat) : ((joinQ s t).1 = s.1 ∨ (joinQ s t).1 = t.1) ∧ ((joinQ s t).2 = s.2 ∨ (joinQ s t).2 = t.2) := by
  unfold joinQ minQ maxQ
  dsimp only
  constructor <;> split <;> simp
theorem part_in {a b c d y z : Rat} (hy : Btw a b y) (hz : Btw c d z) : InS (mulS a b c d) (mulS y b z z).1 ∧ InS (mulS a b c d) (mulS y b z z).2 := by
  have h1 := mul_in hy hz
  have h2 := mul_in (btw_right a b) hz
  have hs : ∀ q : Rat, sortQ q q = (q, q) := fun q => by unfold sortQ; split <;> rfl
  have e : mulS y b z z = joinQ (y * z, y * z) (b * z, b * z) := by unfold mulS; rw [hs, hs]
  rw [e]
  obtain ⟨e1, e2⟩ := join_ends (y * z, y * z) (b * z, b * z)
  constructor
  · rcases e1 with e | e <;> rw [e] <;> assumption
  · rcases e2 with e | e <;> rw [e] <;> assumption
theorem add_in {a b c d y z : Rat} (hy : InS (sortQ a b) y) (hz : InS (sortQ c d) z) : InS ((sortQ a b).1 + (sortQ c d).1, (sortQ a b).2 + (sortQ c d).2) (y + z) := by
  unfold InS at *; dsimp only; grind
/-- the negative numbers -/
def negS (a b : Rat) : Rat × Rat := sortQ (-b) (-a)
theorem neg_in {a b y : Rat} (h : Btw a b y) : Btw (negS a b).1 (negS a b).2 (-y) := by
  unfold negS
  rcases sort_ends (-b) (-a) with ⟨e1, e2⟩ | ⟨e1, e2⟩ <;> rw [e1, e2] <;> unfold Btw at * <;> grind
theorem sort_le (a b : Rat) : (sortQ a b).1 ≤ (sortQ a b).2 := by unfold sortQ; split <;> dsimp only <;> grind
theorem sort_sorted {a b : Rat} (h : a ≤ b) : sortQ a b = (a, b) := by unfold sortQ; rw [if_neg (Rat.not_lt.2 h)]
theorem sort_twice (a b : Rat) : sortQ (sortQ a b).1 (sortQ a b).2 = sortQ a b := sort_sorted (sort_le a b)
/-- one divided by the ends -/
theorem inv_btw {c d z : Rat} (hz : Btw c d z) (h0 : ¬ Btw c d 0) : Btw (1 / d) (1 / c) (1 / z) := by
  have key : ∀ p q : Rat, p ≤ q → (0 < p ∨ q < 0) → 1 / q ≤ 1 / p := fun p q hpq h => by
    have hp : p ≠ 0 := by grind
    have hq : q ≠ 0 := by grind
    have e1 : p * (1 / p) = 1 := by rw [Rat.mul_comm]; exact Rat.div_mul_cancel hp
    have e2 : q * (1 / q) = 1 := by rw [Rat.mul_comm]; exact Rat.div_mul_cancel hq
    have hpos : 0 < p * q := by
      rcases h with h | h
      · exact Rat.mul_pos h (by grind)
      · have := Rat.mul_pos (show 0 < -p by grind) (show 0 < -q by grind)
        grind
    have hne : p * q ≠ 0 := by grind
    have := Rat.mul_le_mul_of_nonneg_right hpq (Rat.le_of_lt (Rat.inv_pos.2 hpos))
    have f1 : p * (p * q)⁻¹ = 1 / q := by
      have : (p * q) * (p * q)⁻¹ = 1 := Rat.mul_inv_cancel _ hne
      generalize (p * q)⁻¹ = i at *
      generalize 1 / q = j at *
      have : q * (p * i) = 1 := by grind
      have h3 : q * (p * i - j) = 0 := by grind
      have h4 := Rat.mul_eq_zero.1 h3
      grind
    have f2 : q * (p * q)⁻¹ = 1 / p := by
      have : (p * q) * (p * q)⁻¹ = 1 := Rat.mul_inv_cancel _ hne
      generalize (p * q)⁻¹ = i at *
      generalize 1 / p = j at *
      have : p * (q * i) = 1 := by grind
      have h3 : p * (q * i - j) = 0 := by grind
      have h4 := Rat.mul_eq_zero.1 h3
      grind
    rw [f1, f2] at this
    exact this
  unfold Btw at *
  rcases hz with ⟨h1, h2⟩ | ⟨h1, h2⟩
  · have hs : 0 < c ∨ d < 0 := by grind
    left
    exact ⟨key z d h2 (by grind), key c z h1 (by grind)⟩
  · have hs : 0 < d ∨ c < 0 := by grind
    right
    exact ⟨key z c h2 (by grind), key d z h1 (by grind)⟩
theorem div_in {a b c d y z : Rat} (hy : Btw a b y) (hz : Btw c d z) (h0 : ¬ Btw c d 0) : InS (mulS a b (1 / d) (1 / c)) (y / z) := by
  have h := mul_in hy (inv_btw hz h0)
  have e : y * (1 / z) = y / z := by rw [Rat.div_def, Rat.div_def, Rat.one_mul]
  rw [e] at h
  exact h
theorem pow_mono {a b : Rat} (h0 : 0 ≤ a) (h : a ≤ b) (n : Nat) : 0 ≤ a ^ n ∧ a ^ n ≤ b ^ n := by
  induction n with
  | zero => rw [Rat.pow_zero, Rat.pow_zero]; exact ⟨by decide, Rat.le_refl⟩
  | succ n ih =>
    rw [Rat.pow_succ, Rat.pow_succ]
    have hb : 0 ≤ b := by grind
    refine ⟨Rat.mul_nonneg ih.1 h0, ?_⟩
    have h1 := Rat.mul_le_mul_of_nonneg_right ih.2 h0
    have h2 := Rat.mul_le_mul_of_nonneg_left h (show 0 ≤ b ^ n by grind)
    grind
theorem pow_neg (a : Rat) (n : Nat) : (-a) ^ n = if n % 2 = 0 then a ^ n else -(a ^ n) := by
  induction n with
  | zero => simp [Rat.pow_zero]
  | succ n ih =>
    rw [Rat.pow_succ, Rat.pow_succ, ih]
    rcases Nat.mod_two_eq_zero_or_one n with h | h
    · rw [if_pos h, if_neg (by omega)]; grind
    · rw [if_neg (by omega), if_pos (by omega)]; grind
/-- the powers of a sorted span -/
def flipE (s : Rat × Rat) (n : Nat) : Rat × Rat := if n % 2 = 0 ∧ s.2 ≤ 0 then (-s.2, -s.1) else s
def powE (s : Rat × Rat) (n : Nat) : Rat × Rat :=
  if 0 < n ∧ n % 2 = 0 ∧ (flipE s n).1 < 0 then (0, maxQ (-(flipE s n).1) (flipE s n).2) else flipE s n
def powS (s : Rat × Rat) (n : Nat) : Rat × Rat := ((powE s n).1 ^ n, (powE s n).2 ^ n)
theorem pow_even {a : Rat} {n : Nat} (h : n % 2 = 0) : (-a) ^ n = a ^ n := by rw [pow_neg, if_pos h]
theorem pow_in {s : Rat × Rat} {y : Rat} (h : InS s y) (n : Nat) : InS (powS s n) (y ^ n) := by
  rcases Nat.eq_zero_or_pos n with h0 | h0
  · subst h0; unfold InS powS; rw [Rat.pow_zero, Rat.pow_zero, Rat.pow_zero]; exact ⟨Rat.le_refl, Rat.le_refl⟩
  obtain ⟨a, b⟩ := s
  unfold InS at h; dsimp only at h
  obtain ⟨h1, h2⟩ := h
  rcases Nat.mod_two_eq_zero_or_one n with he | he
  · -- even
    have key : ∀ p q : Rat, 0 ≤ p → (p ≤ y ∧ y ≤ q ∨ p ≤ -y ∧ -y ≤ q) → InS (p ^ n, q ^ n) (y ^ n) := fun p q hp hc => by
      unfold InS; dsimp only
      rcases hc with ⟨c1, c2⟩ | ⟨c1, c2⟩
      · exact ⟨(pow_mono hp c1 n).2, (pow_mono (by grind) c2 n).2⟩
      · rw [← pow_even (a := y) he]
        exact ⟨(pow_mono hp c1 n).2, (pow_mono (by grind) c2 n).2⟩
    have hz : (0 : Rat) ≤ 0 := Rat.le_refl
    unfold powS powE
    by_cases hb : b ≤ 0
    · have e : flipE (a, b) n = (-b, -a) := by unfold flipE; rw [if_pos ⟨he, hb⟩]
      rw [e]
      dsimp only
      rw [if_neg (by grind)]
      exact key _ _ (by grind) (by right; grind)
    · have e : flipE (a, b) n = (a, b) := by unfold flipE; rw [if_neg (fun h => hb h.2)]
      rw [e]
      dsimp only
      by_cases ha : a < 0
      · rw [if_pos ⟨h0, he, ha⟩]
        refine key _ _ hz ?_
        unfold maxQ
        split <;> grind
      · rw [if_neg (by grind)]
        exact key _ _ (by grind) (by left; grind)
  · -- odd
    have hne : ¬ n % 2 = 0 := by omega
    have e : powE (a, b) n = (a, b) := by
      unfold powE flipE
      rw [if_neg (fun h => hne h.2.1), if_neg (fun h => hne h.1)]
    unfold powS
    rw [e]
    have key : ∀ p q : Rat, p ≤ q → p ^ n ≤ q ^ n := fun p q hpq => by
      have hn : ∀ r : Rat, (-r) ^ n = -(r ^ n) := fun r => by rw [pow_neg, if_neg hne]
      rcases @Rat.le_total 0 p with hp | hp
      · exact (pow_mono hp hpq n).2
      · rcases @Rat.le_total 0 q with hq | hq
        · have a1 := (pow_mono hq Rat.le_refl n).1
          have a2 := (pow_mono (show 0 ≤ -p by grind) Rat.le_refl n).1
          have := hn p
          grind
        · have a1 := (pow_mono (show 0 ≤ -q by grind) (show -q ≤ -p by grind) n).2
          have := hn p
          have := hn q
          grind
    exact ⟨key _ _ h1, key _ _ h2⟩
theorem pow_sorted {s : Rat × Rat} (h : s.1 ≤ s.2) (n : Nat) : sortQ (powS s n).1 (powS s n).2 = powS s n := by
  have := pow_in (s := s) (y := s.1) ⟨Rat.le_refl, h⟩ n
  exact sort_sorted (by unfold InS at this; grind)
end Go.Proofs.YtpgdefgdboijlaaGreatDoor
