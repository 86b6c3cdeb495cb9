/- Plain laws of decimal numerals. -/
import Derived.Test.YtpgdefgdboijlaaGreatDoorNum
import Derived.Lib.ItoaNum
namespace Go.Proofs.YtpgdefgdboijlaaGreatDoor
open Go.RowKit Go.Lib
set_option linter.unusedVariables false

/-- the number that a row of decimal digits is -/
def natOf (l : List UInt8) : Nat := l.foldl (fun n c => 10 * n + (c.toNat - 48)) 0
def isDig (c : UInt8) : Bool := decide (48 ≤ c.toNat) && decide (c.toNat ≤ 57)
theorem isDig_iff (c : UInt8) : isDig c = true ↔ 48 ≤ c.toNat ∧ c.toNat ≤ 57 := by
  unfold isDig; simp
theorem natOf_nil : natOf [] = 0 := rfl
theorem natOf_snoc (l : List UInt8) (c : UInt8) : natOf (l ++ [c]) = 10 * natOf l + (c.toNat - 48) := by
  simp [natOf, List.foldl_append]
theorem natOf_acc (l : List UInt8) (a : Nat) : l.foldl (fun n c => 10 * n + (c.toNat - 48)) a = a * 10 ^ l.length + natOf l := by
  induction l generalizing a with
  | nil => simp [natOf]
  | cons c l ih =>
    unfold natOf
    simp only [List.foldl_cons, List.length_cons]
    rw [ih, ih (10 * 0 + (c.toNat - 48)), Nat.pow_succ, Nat.mul_zero, Nat.zero_add, Nat.add_mul]
    have : 10 * a * 10 ^ l.length = a * (10 ^ l.length * 10) := by rw [Nat.mul_comm 10 a, Nat.mul_assoc, Nat.mul_comm 10]
    omega
theorem natOf_append (l m : List UInt8) : natOf (l ++ m) = natOf l * 10 ^ m.length + natOf m := by
  unfold natOf
  rw [List.foldl_append]
  exact natOf_acc m _
theorem natOf_cons (c : UInt8) (l : List UInt8) : natOf (c :: l) = (c.toNat - 48) * 10 ^ l.length + natOf l := by
  have := natOf_append [c] l
  rw [List.singleton_append] at this
  rw [this]; simp [natOf]
theorem natOf_lt (l : List UInt8) (h : ∀ c ∈ l, isDig c = true) : natOf l < 10 ^ l.length := by
  induction l with
  | nil => simp [natOf]
  | cons c l ih =>
    rw [natOf_cons, List.length_cons, Nat.pow_succ]
    have h1 := ih fun d hd => h d (List.mem_cons_of_mem _ hd)
    have h2 := (isDig_iff c).1 (h c (List.mem_cons_self ..))
    have h3 : (c.toNat - 48) * 10 ^ l.length ≤ 9 * 10 ^ l.length := Nat.mul_le_mul_right _ (by omega)
    omega
theorem dchar (d : Nat) (h : d < 10) : (UInt8.ofNat (48 + d)).toNat = 48 + d := by
  rw [UInt8.toNat_ofNat']; exact Nat.mod_eq_of_lt (by omega)
theorem chard (c : UInt8) (h : isDig c = true) : UInt8.ofNat (48 + (c.toNat - 48)) = c := by
  have h2 := (isDig_iff c).1 h
  apply UInt8.toNat_inj.1
  rw [dchar _ (by omega)]; omega
theorem natOf_dec (n : Nat) : natOf (decDigits n) = n := by
  induction n using Nat.strongRecOn with
  | _ n ih =>
    by_cases h : n < 10
    · rw [decDigits, dif_pos h]; (simp [natOf]; omega)
    · rw [decDigits, dif_neg h, natOf_snoc, ih _ (by omega), dchar _ (by omega)]; omega
theorem dec_ne_nil (n : Nat) : decDigits n ≠ [] := by
  rw [decDigits]; split <;> simp
theorem dec_isDig (n : Nat) : ∀ c ∈ decDigits n, isDig c = true := by
  induction n using Nat.strongRecOn with
  | _ n ih =>
    intro c hc
    by_cases h : n < 10
    · rw [decDigits, dif_pos h] at hc
      simp only [List.mem_singleton] at hc
      rw [hc, isDig_iff, dchar _ h]; omega
    · rw [decDigits, dif_neg h] at hc
      rcases List.mem_append.1 hc with hc | hc
      · exact ih _ (by omega) c hc
      · simp only [List.mem_singleton] at hc
        rw [hc, isDig_iff, dchar _ (by omega)]; omega
theorem natOf_pos (l : List UInt8) (h : ∀ c ∈ l, isDig c = true) (h0 : l ≠ []) (h1 : l.head? ≠ some 48) : 0 < natOf l := by
  cases l with
  | nil => exact absurd rfl h0
  | cons c l =>
    rw [natOf_cons]
    have h2 := (isDig_iff c).1 (h c (List.mem_cons_self ..))
    have h3 : c.toNat ≠ 48 := fun e => h1 (by
      rw [List.head?_cons]; congr 1; apply UInt8.toNat_inj.1; rw [e]; rfl)
    have h4 : 0 < 10 ^ l.length := Nat.pow_pos (by decide)
    have h5 : 1 * 10 ^ l.length ≤ (c.toNat - 48) * 10 ^ l.length := Nat.mul_le_mul_right _ (by omega)
    omega
theorem dec_natOf (l : List UInt8) (h : ∀ c ∈ l, isDig c = true) (h0 : l ≠ []) (h1 : l.head? ≠ some 48 ∨ l.length = 1) : decDigits (natOf l) = l := by
  obtain ⟨k, hk⟩ : ∃ k, l.length = k := ⟨_, rfl⟩
  induction k using Nat.strongRecOn generalizing l with
  | _ k ih =>
    have hs := List.dropLast_concat_getLast h0
    obtain ⟨m, hm⟩ : ∃ m, l.dropLast = m := ⟨_, rfl⟩
    obtain ⟨c, hc⟩ : ∃ c, l.getLast h0 = c := ⟨_, rfl⟩
    rw [hm, hc] at hs
    subst hs
    have hcd := h c (by simp)
    have h2 := (isDig_iff c).1 hcd
    rw [natOf_snoc]
    by_cases hmn : m = []
    · subst hmn
      rw [natOf_nil, decDigits, dif_pos (by omega)]
      simp only [Nat.mul_zero, Nat.zero_add, List.nil_append]
      rw [chard c hcd]
    · have h3 : (m ++ [c]).head? = m.head? := by
        cases m with
        | nil => exact absurd rfl hmn
        | cons a m => rfl
      have hml : 0 < m.length := List.length_pos_iff.2 hmn
      have h4 : m.head? ≠ some 48 := by
        rcases h1 with h1 | h1
        · rw [← h3]; exact h1
        · simp at h1; exact absurd h1 hmn
      have hd : ∀ x ∈ m, isDig x = true := fun x hx => h x (by simp [hx])
      have h5 := natOf_pos m hd hmn h4
      rw [decDigits, dif_neg (by omega)]
      have e1 : (10 * natOf m + (c.toNat - 48)) / 10 = natOf m := by omega
      have e2 : (10 * natOf m + (c.toNat - 48)) % 10 = c.toNat - 48 := by omega
      rw [e1, e2, chard c hcd]
      have hk' : m.length < k := by simp at hk; omega
      rw [ih m.length hk' m hd hmn (Or.inl h4) rfl]
theorem dec_head (n : Nat) (h : n ≠ 0) : (decDigits n).head? ≠ some 48 := by
  induction n using Nat.strongRecOn with
  | _ n ih =>
    by_cases hl : n < 10
    · rw [decDigits, dif_pos hl, List.head?_cons]
      intro e
      have := congrArg UInt8.toNat (Option.some.inj e)
      rw [dchar _ hl] at this
      have h9 : (48 : UInt8).toNat = 48 := rfl
      omega
    · rw [decDigits, dif_neg hl]
      have h3 := dec_ne_nil (n / 10)
      cases hq : decDigits (n / 10) with
      | nil => exact absurd hq h3
      | cons a m =>
        have := ih (n / 10) (by omega) (by omega)
        rw [hq] at this
        exact this
theorem dec_zero : decDigits 0 = [48] := by rw [decDigits, dif_pos (by decide)]; rfl
/-- k digits, with zeros ahead -/
def padTo (k r : Nat) : List UInt8 := List.replicate (k - (decDigits r).length) 48 ++ decDigits r
theorem dec_length_le (k r : Nat) (hk : 0 < k) (hr : r < 10 ^ k) : (decDigits r).length ≤ k := by
  rcases Nat.lt_or_ge k (decDigits r).length with h | h
  · exfalso
    have hr0 : r ≠ 0 := by
      intro e; subst e
      rw [dec_zero] at h; simp at h; omega
    have hd := dec_isDig r
    have hh := dec_head r hr0
    have hn := natOf_dec r
    cases hq : decDigits r with
    | nil => exact dec_ne_nil r hq
    | cons c m =>
      rw [hq] at h hd hh hn
      rw [natOf_cons] at hn
      have h2 := (isDig_iff c).1 (hd c (List.mem_cons_self ..))
      have h3 : c.toNat ≠ 48 := fun e => hh (by
        rw [List.head?_cons]; congr 1; apply UInt8.toNat_inj.1; rw [e]; rfl)
      have h5 : 1 * 10 ^ m.length ≤ (c.toNat - 48) * 10 ^ m.length := Nat.mul_le_mul_right _ (by omega)
      have h6 : 10 ^ k ≤ 10 ^ m.length := Nat.pow_le_pow_right (by decide) (by simp at h; omega)
      omega
  · exact h
theorem padTo_length (k r : Nat) (hk : 0 < k) (hr : r < 10 ^ k) : (padTo k r).length = k := by
  have := dec_length_le k r hk hr
  simp [padTo]; omega
theorem natOf_zeros (k : Nat) (l : List UInt8) : natOf (List.replicate k 48 ++ l) = natOf l := by
  induction k with
  | zero => simp
  | succ k ih => rw [List.replicate_succ, List.cons_append, natOf_cons, ih]; simp
theorem padTo_isDig (k r : Nat) : ∀ c ∈ padTo k r, isDig c = true := by
  intro c hc
  rcases List.mem_append.1 hc with h | h
  · rw [List.mem_replicate] at h
    rw [h.2]; rfl
  · exact dec_isDig r c h
theorem dec_split (k q r : Nat) (hk : 0 < k) (hq : 0 < q) (hr : r < 10 ^ k) : decDigits (q * 10 ^ k + r) = decDigits q ++ padTo k r := by
  have h1 : natOf (decDigits q ++ padTo k r) = q * 10 ^ k + r := by
    rw [natOf_append, natOf_dec, padTo_length k r hk hr]
    unfold padTo
    rw [natOf_zeros, natOf_dec]
  rw [← h1]
  have hn := dec_ne_nil q
  refine dec_natOf _ ?_ (by simp [hn]) (Or.inl ?_)
  · intro c hc
    rcases List.mem_append.1 hc with h | h
    · exact dec_isDig q c h
    · exact padTo_isDig k r c h
  · cases hd : decDigits q with
    | nil => exact absurd hd hn
    | cons a m =>
      have := dec_head q (by omega)
      rw [hd] at this
      exact this

/-- the text of a number -/
def txt (q : Rat) : List UInt8 := (if q.num < 0 then [45] else []) ++ decDigits q.num.natAbs ++ (if q.den = 1 then [] else 47 :: decDigits q.den)
end Go.Proofs.YtpgdefgdboijlaaGreatDoor
