/- Plain laws of the reference's powers of ten, of its Read and Show. -/
import Derived.Test.YtpgdefgdboijlaaGreatDoorRu
import Derived.Test.YtpgdefgdboijlaaGreatDoorPT
namespace Go.Proofs.YtpgdefgdboijlaaGreatDoor
open Go Go.Lib
set_option linter.unusedVariables false

/-- the letters of the reference; the blank stands for none -/
def pfxc : List UInt8 := [102, 112, 110, 117, 109, 32, 107, 77, 71, 84]
def pfxT (c : UInt8) : List UInt8 := if c = 32 then [] else [c]
def pfxO (i : Nat) : List UInt8 × Int := (pfxT (pfxc.getD i 0), 3 * (i : Int) - 15)
theorem pfx_drop (i : Nat) (hi : i < 10) : pfxs.drop i = pfxO i :: pfxs.drop (i + 1) := by
  rcases (show i = 0 ∨ i = 1 ∨ i = 2 ∨ i = 3 ∨ i = 4 ∨ i = 5 ∨ i = 6 ∨ i = 7 ∨ i = 8 ∨ i = 9 by omega) with rfl | rfl | rfl | rfl | rfl | rfl | rfl | rfl | rfl | rfl <;> rfl
theorem pfxT_len (c : UInt8) : (pfxT c).length ≤ 1 := by unfold pfxT; split <;> simp
theorem pfxL_nil (ps : List (List UInt8 × Int)) : pfxL [] ps = (0, []) := by
  induction ps with
  | nil => rfl
  | cons p ps ih =>
    rw [pfxL_cons, ih]
    split
    · rename_i h
      obtain ⟨h1, h2⟩ := h
      exfalso
      apply h2
      have : p.1 <:+ [] := by
        rw [← List.isSuffixOf_iff_suffix]; exact h1
      exact List.suffix_nil.1 this
    · rfl
theorem pfxO_32 (i : Nat) (h : pfxc.getD i 0 = 32) : pfxO i = ([], 3 * (i : Int) - 15) := by unfold pfxO pfxT; rw [if_pos h]
theorem pfxO_ch (i : Nat) (h : ¬ pfxc.getD i 0 = 32) : pfxO i = ([pfxc.getD i 0], 3 * (i : Int) - 15) := by unfold pfxO pfxT; rw [if_neg h]
theorem pfxL_hit (r : List UInt8) (c : UInt8) (i : Nat) (hi : i < 10) (h : c = pfxc.getD i 0) (h32 : c ≠ 32) : pfxL (r ++ [c]) (pfxs.drop i) = (3 * (i : Int) - 15, r) := by
  rw [pfx_drop i hi, pfxL_cons, pfxO_ch i (by rw [← h]; exact h32), ← h]
  dsimp only
  rw [suffix_one, trim_one, if_pos ⟨by simp, by simp⟩]
theorem pfxL_miss (r : List UInt8) (c : UInt8) (i : Nat) (hi : i < 10) (h : ¬ (c = pfxc.getD i 0 ∧ pfxc.getD i 0 ≠ 32)) : pfxL (r ++ [c]) (pfxs.drop i) = pfxL (r ++ [c]) (pfxs.drop (i + 1)) := by
  rw [pfx_drop i hi, pfxL_cons]
  by_cases h4 : pfxc.getD i 0 = 32
  · rw [pfxO_32 i h4, if_neg (fun h => h.2 rfl)]
  · rw [pfxO_ch i h4]
    dsimp only
    rw [suffix_one, if_neg]
    intro h5
    exact h ⟨(beq_iff_eq.1 h5.1).symm, h4⟩
theorem pickP_hit (sz : Rat) (p : List UInt8 × Int) (i : Nat) (hi : i < 10) (h : 0 ≤ cmpQ sz (tensQ 1 (3 * (i : Int) - 15))) : pickP sz p (pfxs.drop i) = pickP sz (pfxO i) (pfxs.drop (i + 1)) := by
  rw [pfx_drop i hi]
  show pickP sz (if 0 ≤ cmpQ sz (tensQ 1 (3 * (i : Int) - 15)) then pfxO i else p) _ = _
  rw [if_pos h]
theorem pickP_miss (sz : Rat) (p : List UInt8 × Int) (i : Nat) (hi : i < 10) (h : ¬ 0 ≤ cmpQ sz (tensQ 1 (3 * (i : Int) - 15))) : pickP sz p (pfxs.drop i) = pickP sz p (pfxs.drop (i + 1)) := by
  rw [pfx_drop i hi]
  show pickP sz (if 0 ≤ cmpQ sz (tensQ 1 (3 * (i : Int) - 15)) then pfxO i else p) _ = _
  rw [if_neg h]
theorem tensQ_more (m : Rat) (b : Nat) : tensQ (tensQ m (b : Int)) 1 = tensQ m ((b + 1 : Nat) : Int) := by
  rw [← tens_mul (tensQ m (b : Int)) 1, ← tens_mul m (b : Int), ← tens_mul m ((b + 1 : Nat) : Int), ← tensQ_succ, Rat.mul_assoc]
  rw [show tensQ 1 (1 : Int) = 10 from by decide]
theorem tensQ_none (m : Rat) : tensQ m 0 = m := by
  rw [← tens_mul, show tensQ 1 (0 : Int) = 1 from by decide, Rat.mul_one]
theorem tensQ_ne {m : Rat} (h : m ≠ 0) (k : Int) : tensQ m k ≠ 0 := by
  unfold tensQ
  have hn : 0 < m.num.natAbs := num_pos h
  have hp : 0 < 10 ^ k.natAbs := Nat.pow_pos (by omega)
  split
  · exact rat_ne_zero hn (Nat.mul_pos m.den_pos hp)
  · exact rat_ne_zero (Nat.mul_pos hn hp) m.den_pos
/-- so far no place behind the point was enough -/
def PtS (m : Rat) (b : Nat) : Prop := b ≤ 13 ∧ (b ≤ 12 → pointL 12 m 0 = pointL (12 - b) (tensQ m (b : Int)) b) ∧ (b = 13 → pointL 12 m 0 = (tensQ m (12 : Nat), 12) ∧ ¬ (tensQ m ((12 : Nat) : Int)).den = 1)
theorem pt_start (m : Rat) : PtS m 0 := ⟨by omega, fun _ => by rw [show ((0 : Nat) : Int) = 0 from rfl, tensQ_none], fun h => by omega⟩
theorem pt_step {m : Rat} {b : Nat} (h : PtS m b) (hb : b ≤ 12) (hd : ¬ (tensQ m (b : Int)).den = 1) : PtS m (b + 1) := by
  obtain ⟨h1, h2, h3⟩ := h
  refine ⟨by omega, fun h => ?_, fun h => ?_⟩
  · rw [h2 hb, show 12 - b = (12 - (b + 1)) + 1 by omega, pointL_more _ _ _ hd, tensQ_more]
  · obtain rfl : b = 12 := by omega
    exact ⟨h2 hb, hd⟩
theorem pt_done {m : Rat} {b : Nat} (h : PtS m b) (hb : b ≤ 12) (hd : (tensQ m (b : Int)).den = 1) : pointL 12 m 0 = (tensQ m (b : Int), b) := by
  rw [h.2.1 hb, pointL_one _ _ _ hd]
/-- zeros ahead, one by one -/
theorem pad_step {b : Nat} {s : List UInt8} (h : s.length ≤ b) : padS b (48 :: s) = padS b s := by
  unfold padS
  rw [List.length_cons, show b + 1 - s.length = (b + 1 - (s.length + 1)) + 1 by omega, List.replicate_succ']
  simp
theorem pad_done {b : Nat} {s : List UInt8} (h : b < s.length) : padS b s = s := by
  unfold padS
  rw [show b + 1 - s.length = 0 by omega]; rfl
end Go.Proofs.YtpgdefgdboijlaaGreatDoor
