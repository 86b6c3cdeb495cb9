/- Plain laws of spans: what the reference computes of the ends is what the program computes. -/
import Derived.Test.YtpgdefgdboijlaaGreatDoorPi
namespace Go.Proofs.YtpgdefgdboijlaaGreatDoor
open Go.RowKit
set_option linter.unusedVariables false

theorem ends_sort (a b : Rat) : minQ a b = (sortQ a b).1 ∧ maxQ a b = (sortQ a b).2 := by
  unfold minQ maxQ sortQ
  by_cases h : b < a
  · have h' : ¬ a < b := by grind
    simp [h, h']
  · by_cases h' : a < b
    · simp [h, h']
    · have e : a = b := by grind
      subst e; simp
/-- the least span of some numbers, the first one apart -/
def hullF (s : Rat × Rat) (l : List Rat) : Rat × Rat := l.foldl (fun s x => (minQ s.1 x, maxQ s.2 x)) s
theorem hullF_snoc (s : Rat × Rat) (l : List Rat) (x : Rat) : hullF s (l ++ [x]) = (minQ (hullF s l).1 x, maxQ (hullF s l).2 x) := by
  unfold hullF; rw [List.foldl_append]; rfl
theorem min_alt (a b : Rat) : (minQ a b ≤ a ∧ minQ a b ≤ b) ∧ (minQ a b = a ∨ minQ a b = b) := by
  unfold minQ; split <;> grind
theorem max_alt (a b : Rat) : (a ≤ maxQ a b ∧ b ≤ maxQ a b) ∧ (maxQ a b = a ∨ maxQ a b = b) := by
  unfold maxQ; split <;> grind
theorem min_comm (a b : Rat) : minQ a b = minQ b a := by have := min_alt a b; have := min_alt b a; grind
theorem max_comm (a b : Rat) : maxQ a b = maxQ b a := by have := max_alt a b; have := max_alt b a; grind
theorem min_assoc (a b c : Rat) : minQ (minQ a b) c = minQ a (minQ b c) := by
  have := min_alt a b; have := min_alt b c; have := min_alt (minQ a b) c; have := min_alt a (minQ b c); grind
theorem max_assoc (a b c : Rat) : maxQ (maxQ a b) c = maxQ a (maxQ b c) := by
  have := max_alt a b; have := max_alt b c; have := max_alt (maxQ a b) c; have := max_alt a (maxQ b c); grind
theorem hull_join (a b c d : Rat) : hullF (a, a) [b, c, d] = joinQ (sortQ a b) (sortQ c d) := by
  unfold joinQ
  rw [← (ends_sort a b).1, ← (ends_sort a b).2, ← (ends_sort c d).1, ← (ends_sort c d).2, ← min_assoc, ← max_assoc]
  rfl
theorem hull_mul (a b c d : Rat) : hullF (a * c, a * c) [a * d, b * c, b * d] = mulS a b c d := by
  unfold mulS; exact hull_join _ _ _ _
theorem sort_comm (a b : Rat) : sortQ a b = sortQ b a := by
  have e1 := ends_sort a b
  have e2 := ends_sort b a
  refine Prod.ext ?_ ?_
  · rw [← e1.1, ← e2.1, min_comm]
  · rw [← e1.2, ← e2.2, max_comm]
theorem mulS_swap (a b c d : Rat) : mulS a b c d = mulS a b d c := by
  unfold mulS; rw [sort_comm (a * c) (a * d), sort_comm (b * c) (b * d)]
theorem negS_sort (a b : Rat) : negS a b = (-(sortQ a b).2, -(sortQ a b).1) := by
  unfold negS sortQ
  rcases rat_tri a b with h | h | h
  · rw [if_neg (by grind), if_neg (by grind)]
  · subst h; rw [if_neg (by grind), if_neg (by grind)]
  · rw [if_pos (by grind), if_pos h]
theorem hull2 (a b : Rat) : hullF (a, a) [b] = sortQ a b := by
  refine Prod.ext ?_ ?_
  · exact (ends_sort a b).1
  · exact (ends_sort a b).2
theorem hull3 (a b c : Rat) : hullF (a, a) [b, c] = (minQ (sortQ a b).1 c, maxQ (sortQ a b).2 c) := by
  rw [show [b, c] = [b] ++ [c] from rfl, hullF_snoc, hull2]
theorem sort_pow (lo hi : Rat) (n : Nat) : sortQ (lo ^ n) (hi ^ n) = sortQ ((sortQ lo hi).1 ^ n) ((sortQ lo hi).2 ^ n) := by
  rcases sort_ends lo hi with ⟨h1, h2⟩ | ⟨h1, h2⟩
  · rw [h1, h2]
  · rw [h1, h2, sort_comm]
theorem sort_eq {a b : Rat} (h : a ≤ b) : sortQ a b = (a, b) := sort_sorted h
theorem odd_mono {n : Nat} (h : n % 2 = 1) {p q : Rat} (hpq : p ≤ q) : p ^ n ≤ q ^ n := by
  have hne : ¬ n % 2 = 0 := by omega
  have hn : ∀ r : Rat, (-r) ^ n = -(r ^ n) := fun r => by rw [pow_neg, if_neg hne]
  rcases @Rat.le_total 0 p with hp | hp
  · exact (pow_mono hp hpq n).2
  · rcases @Rat.le_total 0 q with hq | hq
    · have a1 := (pow_mono hq Rat.le_refl n).1
      have a2 := (pow_mono (show 0 ≤ -p by grind) Rat.le_refl n).1
      have := hn p
      grind
    · have a1 := (pow_mono (show 0 ≤ -q by grind) (show -q ≤ -p by grind) n).2
      have := hn p
      have := hn q
      grind
theorem zero_pow' {n : Nat} (h : 0 < n) : (0 : Rat) ^ n = 0 := by
  obtain ⟨k, rfl⟩ : ∃ k, n = k + 1 := ⟨n - 1, by omega⟩
  rw [Rat.pow_succ, Rat.mul_zero]
/-- powers of a span whose ends are in order -/
theorem hull_pow_at {a b : Rat} (hab : a ≤ b) (n : Nat) :
    powS (a, b) n = if 0 < n ∧ a ≤ 0 ∧ 0 ≤ b then (minQ (sortQ (a ^ n) (b ^ n)).1 0, maxQ (sortQ (a ^ n) (b ^ n)).2 0) else sortQ (a ^ n) (b ^ n) := by
  rcases Nat.eq_zero_or_pos n with h0 | h0
  · subst h0
    rw [if_neg (fun h => absurd h.1 (by omega))]
    unfold powS
    rw [Rat.pow_zero, Rat.pow_zero, Rat.pow_zero, Rat.pow_zero, sort_eq Rat.le_refl]
  rcases Nat.mod_two_eq_zero_or_one n with he | he
  · unfold powS powE
    by_cases hb : b ≤ 0
    · have e : flipE (a, b) n = (-b, -a) := by unfold flipE; rw [if_pos ⟨he, hb⟩]
      rw [e]
      dsimp only
      rw [if_neg (by grind)]
      dsimp only
      rw [pow_even he, pow_even he]
      have m := (pow_mono (show 0 ≤ -b by grind) (show -b ≤ -a by grind) n)
      rw [pow_even he, pow_even he] at m
      have s : sortQ (a ^ n) (b ^ n) = (b ^ n, a ^ n) := by rw [sort_comm]; exact sort_eq m.2
      rw [s]
      split
      · rename_i h
        obtain rfl : b = 0 := by grind
        rw [zero_pow' h0] at m ⊢
        have := min_alt 0 (0 : Rat); have := max_alt (a ^ n) 0
        refine Prod.ext ?_ ?_ <;> dsimp only <;> grind
      · rfl
    · have e : flipE (a, b) n = (a, b) := by unfold flipE; rw [if_neg (fun h => hb h.2)]
      rw [e]
      dsimp only
      have mb := (pow_mono (show (0 : Rat) ≤ 0 from Rat.le_refl) (show (0 : Rat) ≤ b by grind) n)
      rw [zero_pow' h0] at mb
      by_cases ha : a < 0
      · rw [if_pos ⟨h0, he, ha⟩, if_pos ⟨h0, by grind, by grind⟩]
        dsimp only
        rw [zero_pow' h0]
        have ma := (pow_mono (show (0 : Rat) ≤ 0 from Rat.le_refl) (show (0 : Rat) ≤ -a by grind) n)
        rw [zero_pow' h0, pow_even he] at ma
        have mx : (maxQ (-a) b) ^ n = maxQ (a ^ n) (b ^ n) := by
          rcases (max_alt (-a) b) with ⟨⟨u1, u2⟩, u3⟩
          rcases (max_alt (a ^ n) (b ^ n)) with ⟨⟨v1, v2⟩, v3⟩
          rcases u3 with u3 | u3
          · rw [u3, pow_even he]
            rw [u3] at u2
            have := (pow_mono (show (0 : Rat) ≤ b by grind) u2 n).2
            rw [pow_even he] at this
            grind
          · rw [u3]
            rw [u3] at u1
            have := (pow_mono (show (0 : Rat) ≤ -a by grind) u1 n).2
            rw [pow_even he] at this
            grind
        rw [mx, ← (ends_sort (a ^ n) (b ^ n)).1, ← (ends_sort (a ^ n) (b ^ n)).2]
        have k1 := min_alt (a ^ n) (b ^ n); have k2 := max_alt (a ^ n) (b ^ n); have k3 := min_alt (minQ (a ^ n) (b ^ n)) 0; have k4 := max_alt (maxQ (a ^ n) (b ^ n)) 0
        refine Prod.ext ?_ ?_ <;> dsimp only <;> grind
      · rw [if_neg (fun h => ha h.2.2)]
        dsimp only
        have m := (pow_mono (show (0 : Rat) ≤ a by grind) hab n)
        rw [sort_eq m.2]
        split
        · rename_i h
          obtain rfl : a = 0 := by grind
          rw [zero_pow' h0] at m ⊢
          have := min_alt 0 (0 : Rat); have := max_alt (b ^ n) 0
          refine Prod.ext ?_ ?_ <;> dsimp only <;> grind
        · rfl
  · have hne : ¬ n % 2 = 0 := by omega
    have e : powE (a, b) n = (a, b) := by
      unfold powE flipE
      rw [if_neg (fun h => hne h.2.1), if_neg (fun h => hne h.1)]
    unfold powS
    rw [e]
    dsimp only
    have m := odd_mono he hab
    rw [sort_eq m]
    split
    · rename_i h
      have m1 := odd_mono he h.2.1
      have m2 := odd_mono he h.2.2
      rw [zero_pow' h0] at m1 m2
      have := min_alt (a ^ n) 0; have := max_alt (b ^ n) 0
      refine Prod.ext ?_ ?_ <;> dsimp only <;> grind
    · rfl
/-- whether 0 is in a span with its ends in any order -/
def has0 (lo hi : Rat) : Prop := (sortQ lo hi).1 ≤ 0 ∧ 0 ≤ (sortQ lo hi).2
theorem hull_pow_yes {lo hi : Rat} {n : Nat} (h0 : 0 < n) (h : has0 lo hi) : hullF (lo ^ n, lo ^ n) [hi ^ n, 0] = powS (sortQ lo hi) n := by
  rw [hull3, sort_pow]
  have := hull_pow_at (sort_le lo hi) n
  rw [if_pos ⟨h0, h⟩] at this
  exact this.symm
theorem hull_pow_no {lo hi : Rat} {n : Nat} (h : ¬ (0 < n ∧ has0 lo hi)) : hullF (lo ^ n, lo ^ n) [hi ^ n] = powS (sortQ lo hi) n := by
  rw [hull2, sort_pow]
  have := hull_pow_at (sort_le lo hi) n
  have h' : ¬ (0 < n ∧ (sortQ lo hi).1 ≤ 0 ∧ 0 ≤ (sortQ lo hi).2) := h
  rw [if_neg h'] at this
  exact this.symm
end Go.Proofs.YtpgdefgdboijlaaGreatDoor
