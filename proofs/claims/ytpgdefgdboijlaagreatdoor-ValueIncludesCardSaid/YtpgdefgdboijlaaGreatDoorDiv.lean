/- Long division, in plain digits. -/
import Derived.Test.YtpgdefgdboijlaaGreatDoorW0
namespace Go.Proofs.YtpgdefgdboijlaaGreatDoor
set_option linter.unusedVariables false

theorem num_inj {B : Nat} : ∀ {a b : List Nat}, a.length = b.length → (∀ d ∈ a, d < B) → (∀ d ∈ b, d < B) → num B a = num B b → a = b
  | [], [], _, _, _, _ => rfl
  | x :: a, y :: b, hl, ha, hb, h => by
    have hx := ha x (by simp)
    have hy := hb y (by simp)
    simp only [num_cons] at h
    have h1 : x = y := by
      have := congrArg (· % B) h
      simpa [Nat.add_mul_mod_self_left, Nat.mod_eq_of_lt hx, Nat.mod_eq_of_lt hy] using this
    subst h1
    have h2 : num B a = num B b := Nat.eq_of_mul_eq_mul_left (show 0 < B by omega) (by omega)
    rw [num_inj (by simpa using hl) (fun d hd => ha d (by simp [hd])) (fun d hd => hb d (by simp [hd])) h2]

theorem num_eq_zero {B : Nat} (hB : 0 < B) : ∀ {l : List Nat}, num B l = 0 → ∀ d ∈ l, d = 0
  | [], _, d, hd => by simp at hd
  | x :: l, h, d, hd => by
    simp only [num_cons] at h
    have hx : x = 0 := by omega
    have hn : num B l = 0 := by
      have : B * num B l = 0 := by omega
      rcases Nat.mul_eq_zero.1 this with h | h
      · omega
      · exact h
    rcases List.mem_cons.1 hd with rfl | hd
    · exact hx
    · exact num_eq_zero hB hn d hd

/-- beyond the bound all digits are nothing -/
theorem num_take_of_lt {B : Nat} (hB : 0 < B) {l : List Nat} {k : Nat} (hk : k ≤ l.length) (h : num B l < B ^ k) : num B (l.take k) = num B l ∧ num B (l.drop k) = 0 := by
  have e := num_drop B l k hk
  have hp : 0 < B ^ k := Nat.pow_pos hB
  have h0 : num B (l.drop k) = 0 := by
    rcases Nat.eq_zero_or_pos (num B (l.drop k)) with h0 | h0
    · exact h0
    · have := Nat.mul_le_mul_left (B ^ k) h0
      omega
  rw [h0] at e
  exact ⟨by omega, h0⟩

theorem num_lt_of_same {B : Nat} (hB : 0 < B) {us us' : List Nat} {k : Nat} (hk : k ≤ us.length) (hl : us'.length = us.length) (hd : ∀ d ∈ us', d < B) (h : num B us < B ^ k) (hs : ∀ i, k ≤ i → us'.getD i 0 = us.getD i 0) :
    num B us' < B ^ k := by
  obtain ⟨-, h0⟩ := num_take_of_lt hB hk h
  have he : us'.drop k = us.drop k := by
    apply List.ext_getElem
    · simp [hl]
    · intro i h1 h2
      simp only [List.length_drop] at h1 h2
      have := hs (k + i) (by omega)
      rw [List.getD_eq_getElem?_getD, List.getD_eq_getElem?_getD, List.getElem?_eq_getElem (by omega), List.getElem?_eq_getElem (by omega)] at this
      simpa using this
  have e := num_drop B us' k (by omega)
  rw [he, h0] at e
  have := num_lt B (us'.take k) (fun d hd' => hd d (List.mem_of_mem_take hd'))
  rw [List.length_take, Nat.min_eq_left (by omega)] at this
  omega

/-- one round: take tells whether the guess is too great -/
theorem round_take {B : Nat} (hB : 0 < B) {us us' : List Nat} {j r t V : Nat} {b : Bool} (hk : j + r + 1 ≤ us.length) (hl : us'.length = us.length) (hd : ∀ d ∈ us', d < B) (hV : 0 < V)
    (hlt : num B us < B ^ (j + r + 1)) (hs : ∀ i, i < j ∨ j + r < i → us'.getD i 0 = us.getD i 0)
    (h : num B us' + B ^ j * (t * V) = num B us + B ^ (j + r + 1) * (if b then 1 else 0)) (ht : num B us / (B ^ j * V) ≤ t) :
    (b = true → num B us / (B ^ j * V) < t) ∧ (b = false → t = num B us / (B ^ j * V) ∧ num B us' = num B us % (B ^ j * V)) ∧ num B us' < B ^ (j + r + 1) := by
  have hlt' := num_lt_of_same hB hk hl hd hlt (fun i hi => hs i (by omega))
  have hP : 0 < B ^ j * V := Nat.mul_pos (Nat.pow_pos hB) hV
  rw [show B ^ j * (t * V) = t * (B ^ j * V) by rw [Nat.mul_left_comm]] at h
  generalize B ^ j * V = P at *
  refine ⟨fun hb => ?_, fun hb => ?_, hlt'⟩
  · subst hb
    rw [if_pos rfl] at h
    apply Nat.lt_of_not_le
    intro hle
    have : t * P ≤ num B us := by rw [← Nat.le_div_iff_mul_le hP]; exact hle
    omega
  · subst hb
    rw [if_neg (by decide)] at h
    have h1 : t ≤ num B us / P := by rw [Nat.le_div_iff_mul_le hP]; omega
    have h2 : t = num B us / P := Nat.le_antisymm h1 ht
    refine ⟨h2, ?_⟩
    have := Nat.div_add_mod (num B us) P
    rw [← h2, Nat.mul_comm] at this
    omega

/-- and give brings back the very words -/
theorem round_give {B : Nat} (hB : 0 < B) {us us' us'' : List Nat} {j r t V : Nat} {b : Bool} (hk : j + r + 1 ≤ us.length) (hl : us'.length = us.length) (hl' : us''.length = us'.length) (hd0 : ∀ d ∈ us, d < B) (hd : ∀ d ∈ us'', d < B)
    (hlt : num B us < B ^ (j + r + 1)) (hlt' : num B us' < B ^ (j + r + 1)) (hs : ∀ i, i < j ∨ j + r < i → us''.getD i 0 = us'.getD i 0)
    (h1 : num B us' + B ^ j * (t * V) = num B us + B ^ (j + r + 1) * (if true then 1 else 0))
    (h : num B us'' + B ^ (j + r + 1) * (if b then 1 else 0) = num B us' + B ^ j * (t * V)) : us'' = us := by
  have hlt'' := num_lt_of_same hB (by omega) hl' hd hlt' (fun i hi => hs i (by omega))
  rw [if_pos rfl] at h1
  apply num_inj (by omega) hd hd0
  cases b
  · rw [if_neg (by decide)] at h; omega
  · rw [if_pos rfl] at h; omega

/-- the guess from the highest words is never too little -/
theorem guess_ge {B : Nat} (hB : 0 < B) {us vs : List Nat} {j q : Nat} (hu : j + q + 2 ≤ us.length) (hv : vs.length = q + 1) (hd : ∀ d ∈ us, d < B) (hlt : num B us < B ^ (j + q + 2)) (hp : 0 < vs.getD q 0) :
    num B us / (B ^ j * num B vs) ≤ (us.getD (j + q + 1) 0 * B + us.getD (j + q) 0) / vs.getD q 0 := by
  obtain ⟨e, -⟩ := num_take_of_lt hB hu hlt
  rw [num_take_succ B us (j + q + 1) (by omega), num_take_succ B us (j + q) (by omega)] at e
  have h1 : num B vs = num B (vs.take q) + B ^ q * vs.getD q 0 := by
    have := num_take_succ B vs q (by omega)
    rwa [num_take_all B vs (by omega)] at this
  have h2 := num_lt B (us.take (j + q)) (fun d hd' => hd d (List.mem_of_mem_take hd'))
  rw [List.length_take, Nat.min_eq_left (by omega)] at h2
  generalize us.getD (j + q + 1) 0 = a at *
  generalize us.getD (j + q) 0 = c at *
  generalize vs.getD q 0 = v at *
  rw [Nat.le_div_iff_mul_le hp]
  have h3 := Nat.div_mul_le_self (num B us) (B ^ j * num B vs)
  generalize num B us / (B ^ j * num B vs) = D at *
  have h4 : D * v * B ^ (j + q) ≤ num B us := by
    refine Nat.le_trans ?_ h3
    rw [h1, Nat.mul_add, Nat.mul_add, Nat.pow_add]
    refine Nat.le_trans (Nat.le_of_eq ?_) (Nat.le_add_left _ _)
    simp only [Nat.mul_assoc, Nat.mul_left_comm, Nat.mul_comm]
  have h5 : num B us < (a * B + c + 1) * B ^ (j + q) := by
    rw [← e, Nat.pow_succ]
    have : (a * B + c + 1) * B ^ (j + q) = B ^ (j + q) * c + B ^ (j + q) * B * a + B ^ (j + q) := by
      grind
    omega
  have h6 : D * v * B ^ (j + q) < (a * B + c + 1) * B ^ (j + q) := Nat.lt_of_le_of_lt h4 h5
  have := Nat.lt_of_mul_lt_mul_right h6
  omega

/-- the scaled divisor has as many words, and its highest bit -/
theorem scaled {B n q y R : Nat} {S S' : Nat} (hS : B = S * S') (hn : n = R + B ^ q * y) (hR : R < B ^ q) (h1 : y * S < B) (h2 : B ≤ 2 * (y * S)) (hS0 : 0 < S) : n * S < B ^ (q + 1) ∧ B ^ (q + 1) ≤ 2 * (n * S) := by
  constructor
  · have hy : y + 1 ≤ S' := by
      rw [hS, Nat.mul_comm S S'] at h1
      exact Nat.lt_of_mul_lt_mul_right h1
    have h3 : n < B ^ q * (y + 1) := by rw [Nat.mul_add]; omega
    have h4 : n * S < B ^ q * (y + 1) * S := Nat.mul_lt_mul_of_pos_right h3 hS0
    refine Nat.lt_of_lt_of_le h4 ?_
    rw [Nat.pow_succ, Nat.mul_assoc, hS]
    refine Nat.mul_le_mul_left _ ?_
    rw [Nat.mul_comm S S']
    exact Nat.mul_le_mul_right _ hy
  · rw [Nat.pow_succ]
    refine Nat.le_trans (Nat.mul_le_mul_left _ h2) ?_
    rw [hn, Nat.add_mul, Nat.mul_add, Nat.mul_left_comm (B ^ q) 2, Nat.mul_assoc (B ^ q) y S]
    exact Nat.le_add_left _ _

theorem start_lt {B m M V p q S : Nat} (hq : q ≤ p) (hS : 2 * S ≤ B) (hm : m < B ^ p) (hM : M = m * S) (hS0 : 0 < S) (hV : B ^ (q + 1) ≤ 2 * V) : M < B ^ (p - q) * V := by
  have h1 : M < B ^ p * S := by rw [hM]; exact Nat.mul_lt_mul_of_pos_right hm hS0
  have h2 : B ^ (p - q) * B ^ (q + 1) ≤ B ^ (p - q) * (2 * V) := Nat.mul_le_mul_left _ hV
  rw [← Nat.pow_add, show p - q + (q + 1) = p + 1 by omega, Nat.pow_succ, Nat.mul_left_comm] at h2
  have h3 : B ^ p * (2 * S) ≤ B ^ p * B := Nat.mul_le_mul_left _ hS
  rw [Nat.mul_left_comm] at h3
  omega

/-- one round's invariant -/
theorem outer_step {B V M N j D : Nat} {qs : List Nat} (hj : j < qs.length) (hinv : num B (qs.drop (j + 1)) * (B ^ (j + 1) * V) + N = M) (hD : D = N / (B ^ j * V)) :
    num B ((qs.set j D).drop j) * (B ^ j * V) + N % (B ^ j * V) = M := by
  have h1 : (qs.set j D).drop j = D :: qs.drop (j + 1) := by
    rw [List.drop_eq_getElem_cons (by simpa using hj)]
    simp [List.drop_set]
  have h2 := Nat.div_add_mod N (B ^ j * V)
  rw [← hD] at h2
  rw [h1, num_cons, Nat.add_mul, ← hinv]
  have h3 : B * num B (qs.drop (j + 1)) * (B ^ j * V) = num B (qs.drop (j + 1)) * (B ^ (j + 1) * V) := by
    rw [Nat.pow_succ]; simp only [Nat.mul_assoc, Nat.mul_left_comm, Nat.mul_comm]
  rw [h3, Nat.mul_comm D]
  omega

theorem long_end {m n S Q N : Nat} (hS : 0 < S) (hn : 0 < n) (h : Q * (n * S) + N = m * S) (hN : N < n * S) : Q = m / n ∧ N / S = m % n := by
  have h1 : m * S / (n * S) = Q := by
    rw [← h, Nat.add_comm, Nat.add_mul_div_right _ _ (Nat.mul_pos hn hS), Nat.div_eq_of_lt hN, Nat.zero_add]
  have h2 : m * S % (n * S) = N := by
    rw [← h, Nat.add_comm, Nat.add_mul_mod_self_right, Nat.mod_eq_of_lt hN]
  rw [Nat.mul_div_mul_right _ _ hS] at h1
  rw [Nat.mul_mod_mul_right] at h2
  exact ⟨h1.symm, by rw [← h2, Nat.mul_div_cancel _ hS]⟩

/-- the scaled dividend with room behind it -/
theorem room {B : Nat} {l : List Nat} {p : Nat} (hB : 0 < B) (h1 : p ≤ l.length) (h2 : l.length ≤ p + 1) (hd : ∀ d ∈ l, d < B) :
    ((l ++ [0, 0]).take (p + 1)).length = p + 1 ∧ num B ((l ++ [0, 0]).take (p + 1)) = num B l ∧ ∀ d ∈ (l ++ [0, 0]).take (p + 1), d < B := by
  refine ⟨by simp; omega, ?_, ?_⟩
  · rcases Nat.lt_or_ge p l.length with h | h
    · rw [List.take_append_of_le_length (by omega), num_take_all B l (by omega)]
    · have e : l.length = p := by omega
      subst e
      rw [List.take_append, List.take_of_length_le (by omega), show l.length + 1 - l.length = 1 by omega]
      show num B (l ++ [0]) = _
      rw [num_snoc]; simp
  · intro d hd'
    have := List.mem_of_mem_take hd'
    simp only [List.mem_append, List.mem_cons, List.not_mem_nil, or_false] at this
    rcases this with h | rfl | rfl
    · exact hd d h
    · exact hB
    · exact hB

theorem cut_length (l : List Nat) : (cut l).length ≤ l.length := by
  induction l with
  | nil => simp [cut]
  | cons d l ih => unfold cut; split <;> simp; omega
theorem cut_take (l : List Nat) : l.take (cut l).length = cut l := by
  induction l with
  | nil => simp [cut]
  | cons d l ih =>
    unfold cut
    split
    · simp
    · simp [ih]

end Go.Proofs.YtpgdefgdboijlaaGreatDoor
