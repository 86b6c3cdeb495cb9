/- Small laws: the error of Parse, rows of three cells. -/
import Derived.Test.YtpgdefgdboijlaaGreatDoorUa
import Derived.Test.YtpgdefgdboijlaaGreatDoorTg
import Derived.Deep.RegionHeld3
namespace Go.Proofs.YtpgdefgdboijlaaGreatDoor
open Go.RowKit
set_option linter.unusedVariables false
theorem parse_err (l : List UInt8) : (parseS l).1 = 0 ∨ (parseS l).1 = 3 ∨ (parseS l).1 = 6 := by
  unfold parseS
  dsimp only
  repeat' split
  all_goals first | (left; rfl) | (right; left; rfl) | (right; right; rfl)
theorem put3_other {W : World} {g k : Nat} {o : Obj} (h : W.heap[k]? = some o) (hne : k ≠ g) (a b c : Value) :
    (((W.setCell ⟨g, 0, none⟩ a).setCell ⟨g, 1, none⟩ b).setCell ⟨g, 2, none⟩ c).heap[k]? = some o := by
  rw [Below.heap_setCell _ _ _ _ hne, Below.heap_setCell _ _ _ _ hne, Below.heap_setCell _ _ _ _ hne]; exact h
def zrow3 : Obj := .cells #[.bool false, .slice none 0 0, .slice none 0 0] 25 (0, 0)
theorem Nm.puts3 {W : World} {v : Value} {q : Rat} {g0 g1 g2 : Nat} (h : Nm W v q) (z0 : W.heap[g0]? = some zrow3) (z1 : W.heap[g1]? = some zrow3) (z2 : W.heap[g2]? = some zrow3)
    (n1 : g1 ≠ g0) (n2 : g2 ≠ g0) (n3 : g2 ≠ g1) (a b c a' b' c' a'' b'' c'' : Value) :
    Nm (((((((((W.setCell ⟨g0, 0, none⟩ a).setCell ⟨g0, 1, none⟩ b).setCell ⟨g0, 2, none⟩ c).setCell ⟨g1, 0, none⟩ a').setCell ⟨g1, 1, none⟩ b').setCell ⟨g1, 2, none⟩ c').setCell ⟨g2, 0, none⟩ a'').setCell ⟨g2, 1, none⟩ b'').setCell ⟨g2, 2, none⟩ c'') v q :=
  ((h.put3' z0 _ _ _).put3' (put3_other z1 n1 _ _ _) _ _ _).put3' (put3_other (put3_other z2 n2 _ _ _) n3 _ _ _) _ _ _
end Go.Proofs.YtpgdefgdboijlaaGreatDoor
