/-
  DERIVED. GIVEN WITH THE SEED: THE CARDS: each row of YtaaoleakkaloeaaGreatDoorRows.lean that lists a variable, with what it lists TIED to the program's text (the seventh form; the later family's looks); each row that meets fmt, with fmt's text TOLD by the authors' own Lean function (tested against real Go, not proved from fmt's source: count such statements apart). THE CARD IS WHAT COUNTS. Prove the row's statement (the work); the ties are given (YtaaoleakkaloeaaGreatDoorTie.lean); close each card by the builder's one call (the guide's Derived/Test/ToyasCard.lean, 'card_holds'). Laid BY PROGRAM, IN A SANDBOX (cutbox-door.mjs). By AI agents, Wed Nov 11 2026. No macro, syntax, notation, axiom, sorry.
-/
import Derived.Test.YtaaoleakkaloeaaGreatDoorRows
import GoSem.ClaimSeven
namespace Go.Proofs.YtaaoleakkaloeaaGreatDoor
namespace Rows

/-- THE TIED CARD OF 'pentodelaw02.PolyHurwitz'. -/
def polyHurwitzCard : Claim7 := { stood := { row := polyHurwitzRow, standIns := [], harness := (true, "393038c6ac1ec66357e8eb54ae99f02322a7d5cc6be2d7b1f09224233dee1bb7"), looks := false }, kinds := [], alts := [], laidByText := true, laidKinds := [.data, .data, .data, .data, .pinned], laidTests := true, laidLooks := .later }
def PolyHurwitzCardSaid : Prop := Claim7.holds Tryz.pinned (.plain (OpenSpec.ofChange polyHurwitzSpec)) polyHurwitzCard

/-- THE TIED CARD OF 'pentodelaw02.PolyIsolates'. -/
def polyIsolatesCard : Claim7 := { stood := { row := polyIsolatesRow, standIns := [], harness := (true, "393038c6ac1ec66357e8eb54ae99f02322a7d5cc6be2d7b1f09224233dee1bb7"), looks := false }, kinds := [], alts := [], laidByText := true, laidKinds := [.data, .data, .data, .data, .pinned], laidTests := true, laidLooks := .later }
def PolyIsolatesCardSaid : Prop := Claim7.holds Tryz.pinned (.plain (OpenSpec.ofChange polyIsolatesSpec)) polyIsolatesCard

/-- THE TIED CARD OF 'pentodelaw02.PolySure'. -/
def polySureCard : Claim7 := { stood := { row := polySureRow, standIns := [], harness := (true, "393038c6ac1ec66357e8eb54ae99f02322a7d5cc6be2d7b1f09224233dee1bb7"), looks := false }, kinds := [], alts := [], laidByText := true, laidKinds := [.data, .data, .data, .data, .pinned], laidTests := true, laidLooks := .later }
def PolySureCardSaid : Prop := Claim7.holds Tryz.pinned (.plain (OpenSpec.ofChange polySureSpec)) polySureCard

/-- THE SECOND FORM's CARD OF 'pentodelaw02.PolyHurwitz'. -/
def polyHurwitzUptoCard : Claim7 := { stood := { row := polyHurwitzUptoRow, standIns := [], harness := (true, "393038c6ac1ec66357e8eb54ae99f02322a7d5cc6be2d7b1f09224233dee1bb7"), looks := false }, kinds := [], alts := [], laidByText := true, laidKinds := [.data, .data, .data, .data, .pinned], laidTests := true, laidLooks := .later }
def PolyHurwitzUptoCardSaid : Prop := Claim7.holds Tryz.pinned (.plain (OpenSpec.upto polyHurwitzSpec)) polyHurwitzUptoCard

/-- THE SECOND FORM's CARD OF 'pentodelaw02.PolyIsolates'. -/
def polyIsolatesUptoCard : Claim7 := { stood := { row := polyIsolatesUptoRow, standIns := [], harness := (true, "393038c6ac1ec66357e8eb54ae99f02322a7d5cc6be2d7b1f09224233dee1bb7"), looks := false }, kinds := [], alts := [], laidByText := true, laidKinds := [.data, .data, .data, .data, .pinned], laidTests := true, laidLooks := .later }
def PolyIsolatesUptoCardSaid : Prop := Claim7.holds Tryz.pinned (.plain (OpenSpec.upto polyIsolatesSpec)) polyIsolatesUptoCard

/-- THE SECOND FORM's CARD OF 'pentodelaw02.PolySure'. -/
def polySureUptoCard : Claim7 := { stood := { row := polySureUptoRow, standIns := [], harness := (true, "393038c6ac1ec66357e8eb54ae99f02322a7d5cc6be2d7b1f09224233dee1bb7"), looks := false }, kinds := [], alts := [], laidByText := true, laidKinds := [.data, .data, .data, .data, .pinned], laidTests := true, laidLooks := .later }
def PolySureUptoCardSaid : Prop := Claim7.holds Tryz.pinned (.plain (OpenSpec.upto polySureSpec)) polySureUptoCard
end Rows
end Go.Proofs.YtaaoleakkaloeaaGreatDoor
