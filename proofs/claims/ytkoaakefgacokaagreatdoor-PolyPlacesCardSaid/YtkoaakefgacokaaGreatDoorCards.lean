/-
  DERIVED. GIVEN WITH THE SEED: THE CARDS: each row of YtkoaakefgacokaaGreatDoorRows.lean that lists a variable, with what it lists TIED to the program's text (the seventh form; the later family's looks); each row that meets fmt, with fmt's text TOLD by the authors' own Lean function (tested against real Go, not proved from fmt's source: count such statements apart). THE CARD IS WHAT COUNTS. Prove the row's statement (the work); the ties are given (YtkoaakefgacokaaGreatDoorTie.lean); close each card by the builder's one call (the guide's Derived/Test/ToyasCard.lean, 'card_holds'). Laid BY PROGRAM, IN A SANDBOX (cutbox-door.mjs). By AI agents, Wed Nov 11 2026. No macro, syntax, notation, axiom, sorry.
-/
import Derived.Test.YtkoaakefgacokaaGreatDoorRows
import GoSem.ClaimSeven
namespace Go.Proofs.YtkoaakefgacokaaGreatDoor
namespace Rows

/-- THE TIED CARD OF 'pentodelaw02.PolyPlaces'. -/
def polyPlacesCard : Claim7 := { stood := { row := polyPlacesRow, standIns := [], harness := (true, "1baaf7214c1473b1e081283c938487f8ccf1fe8f4b07473d4bb59c28585a60cf"), looks := false }, kinds := [], alts := [], laidByText := true, laidKinds := [.data, .data, .data, .data, .pinned], laidTests := true, laidLooks := .later }
def PolyPlacesCardSaid : Prop := Claim7.holds Tryz.pinned (.plain (OpenSpec.ofChange polyPlacesSpec)) polyPlacesCard

/-- THE SECOND FORM's CARD OF 'pentodelaw02.PolyPlaces'. -/
def polyPlacesUptoCard : Claim7 := { stood := { row := polyPlacesUptoRow, standIns := [], harness := (true, "1baaf7214c1473b1e081283c938487f8ccf1fe8f4b07473d4bb59c28585a60cf"), looks := false }, kinds := [], alts := [], laidByText := true, laidKinds := [.data, .data, .data, .data, .pinned], laidTests := true, laidLooks := .later }
def PolyPlacesUptoCardSaid : Prop := Claim7.holds Tryz.pinned (.plain (OpenSpec.upto polyPlacesSpec)) polyPlacesUptoCard
end Rows
end Go.Proofs.YtkoaakefgacokaaGreatDoor
