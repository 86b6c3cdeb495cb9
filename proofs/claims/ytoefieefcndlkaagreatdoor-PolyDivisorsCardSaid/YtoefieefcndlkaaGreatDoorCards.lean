/-
  DERIVED. GIVEN WITH THE SEED: THE CARDS: each row of YtoefieefcndlkaaGreatDoorRows.lean that lists a variable, with what it lists TIED to the program's text (the seventh form; the later family's looks); each row that meets fmt, with fmt's text TOLD by the authors' own Lean function (tested against real Go, not proved from fmt's source: count such statements apart). THE CARD IS WHAT COUNTS. Prove the row's statement (the work); the ties are given (YtoefieefcndlkaaGreatDoorTie.lean); close each card by the builder's one call (the guide's Derived/Test/ToyasCard.lean, 'card_holds'). Laid BY PROGRAM, IN A SANDBOX (cutbox-door.mjs). By AI agents, Wed Nov 11 2026. No macro, syntax, notation, axiom, sorry.
-/
import Derived.Test.YtoefieefcndlkaaGreatDoorRows
import GoSem.ClaimSeven
namespace Go.Proofs.YtoefieefcndlkaaGreatDoor
namespace Rows

/-- THE TIED CARD OF 'pentodelaw02.PolyDivides'. -/
def polyDividesCard : Claim7 := { stood := { row := polyDividesRow, standIns := [], harness := (true, "b2529aa1b8206697f705441cdf152247e71548f5f696e577a67301d0fa25d692"), looks := false }, kinds := [], alts := [], laidByText := true, laidKinds := [.data, .data, .data, .data, .pinned], laidTests := true, laidLooks := .later }
def PolyDividesCardSaid : Prop := Claim7.holds Tryz.pinned (.plain (OpenSpec.ofChange polyDividesSpec)) polyDividesCard

/-- THE TIED CARD OF 'pentodelaw02.PolyDivisors'. -/
def polyDivisorsCard : Claim7 := { stood := { row := polyDivisorsRow, standIns := [], harness := (true, "b2529aa1b8206697f705441cdf152247e71548f5f696e577a67301d0fa25d692"), looks := false }, kinds := [], alts := [], laidByText := true, laidKinds := [.data, .data, .data, .data, .pinned], laidTests := true, laidLooks := .later }
def PolyDivisorsCardSaid : Prop := Claim7.holds Tryz.pinned (.plain (OpenSpec.ofChange polyDivisorsSpec)) polyDivisorsCard

/-- THE SECOND FORM's CARD OF 'pentodelaw02.PolyDivides'. -/
def polyDividesUptoCard : Claim7 := { stood := { row := polyDividesUptoRow, standIns := [], harness := (true, "b2529aa1b8206697f705441cdf152247e71548f5f696e577a67301d0fa25d692"), looks := false }, kinds := [], alts := [], laidByText := true, laidKinds := [.data, .data, .data, .data, .pinned], laidTests := true, laidLooks := .later }
def PolyDividesUptoCardSaid : Prop := Claim7.holds Tryz.pinned (.plain (OpenSpec.upto polyDividesSpec)) polyDividesUptoCard

/-- THE SECOND FORM's CARD OF 'pentodelaw02.PolyDivisors'. -/
def polyDivisorsUptoCard : Claim7 := { stood := { row := polyDivisorsUptoRow, standIns := [], harness := (true, "b2529aa1b8206697f705441cdf152247e71548f5f696e577a67301d0fa25d692"), looks := false }, kinds := [], alts := [], laidByText := true, laidKinds := [.data, .data, .data, .data, .pinned], laidTests := true, laidLooks := .later }
def PolyDivisorsUptoCardSaid : Prop := Claim7.holds Tryz.pinned (.plain (OpenSpec.upto polyDivisorsSpec)) polyDivisorsUptoCard
end Rows
end Go.Proofs.YtoefieefcndlkaaGreatDoor
