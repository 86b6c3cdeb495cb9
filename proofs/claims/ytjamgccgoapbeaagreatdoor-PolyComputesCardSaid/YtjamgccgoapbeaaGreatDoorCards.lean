/-
  DERIVED. GIVEN WITH THE SEED: THE CARDS: each row of YtjamgccgoapbeaaGreatDoorRows.lean that lists a variable, with what it lists TIED to the program's text (the seventh form; the later family's looks); each row that meets fmt, with fmt's text TOLD by the authors' own Lean function (tested against real Go, not proved from fmt's source: count such statements apart). THE CARD IS WHAT COUNTS. Prove the row's statement (the work); the ties are given (YtjamgccgoapbeaaGreatDoorTie.lean); close each card by the builder's one call (the guide's Derived/Test/ToyasCard.lean, 'card_holds'). Laid BY PROGRAM, IN A SANDBOX (cutbox-door.mjs). By AI agents, Wed Nov 11 2026. No macro, syntax, notation, axiom, sorry.
-/
import Derived.Test.YtjamgccgoapbeaaGreatDoorRows
import GoSem.ClaimSeven
namespace Go.Proofs.YtjamgccgoapbeaaGreatDoor
namespace Rows

/-- THE TIED CARD OF 'pentodelaw02.PolyKnown'. -/
def polyKnownCard : Claim7 := { stood := { row := polyKnownRow, standIns := [], harness := (true, "0849b71c5d0e821fcd5042840e6db65327992ba149fd89da1584647c5c4e50e3"), looks := false }, kinds := [], alts := [], laidByText := true, laidKinds := [.data, .data, .data], laidTests := true, laidLooks := .later }
def PolyKnownCardSaid : Prop := Claim7.holds Tryz.pinned (.plain (OpenSpec.ofChange polyKnownSpec)) polyKnownCard

/-- THE TIED CARD OF 'pentodelaw02.PolyComputes'. -/
def polyComputesCard : Claim7 := { stood := { row := polyComputesRow, standIns := [], harness := (true, "0849b71c5d0e821fcd5042840e6db65327992ba149fd89da1584647c5c4e50e3"), looks := false }, kinds := [], alts := [], laidByText := true, laidKinds := [.data, .data, .data, .data, .pinned], laidTests := true, laidLooks := .later }
def PolyComputesCardSaid : Prop := Claim7.holds Tryz.pinned (.plain (OpenSpec.ofChange polyComputesSpec)) polyComputesCard

/-- THE TIED CARD OF 'pentodelaw02.PolyRing'. -/
def polyRingCard : Claim7 := { stood := { row := polyRingRow, standIns := [], harness := (true, "0849b71c5d0e821fcd5042840e6db65327992ba149fd89da1584647c5c4e50e3"), looks := false }, kinds := [], alts := [], laidByText := true, laidKinds := [.data, .data, .data, .data, .pinned], laidTests := true, laidLooks := .later }
def PolyRingCardSaid : Prop := Claim7.holds Tryz.pinned (.plain (OpenSpec.ofChange polyRingSpec)) polyRingCard

/-- THE SECOND FORM's CARD OF 'pentodelaw02.PolyKnown'. -/
def polyKnownUptoCard : Claim7 := { stood := { row := polyKnownUptoRow, standIns := [], harness := (true, "0849b71c5d0e821fcd5042840e6db65327992ba149fd89da1584647c5c4e50e3"), looks := false }, kinds := [], alts := [], laidByText := true, laidKinds := [.data, .data, .data], laidTests := true, laidLooks := .later }
def PolyKnownUptoCardSaid : Prop := Claim7.holds Tryz.pinned (.plain (OpenSpec.upto polyKnownSpec)) polyKnownUptoCard

/-- THE SECOND FORM's CARD OF 'pentodelaw02.PolyComputes'. -/
def polyComputesUptoCard : Claim7 := { stood := { row := polyComputesUptoRow, standIns := [], harness := (true, "0849b71c5d0e821fcd5042840e6db65327992ba149fd89da1584647c5c4e50e3"), looks := false }, kinds := [], alts := [], laidByText := true, laidKinds := [.data, .data, .data, .data, .pinned], laidTests := true, laidLooks := .later }
def PolyComputesUptoCardSaid : Prop := Claim7.holds Tryz.pinned (.plain (OpenSpec.upto polyComputesSpec)) polyComputesUptoCard

/-- THE SECOND FORM's CARD OF 'pentodelaw02.PolyRing'. -/
def polyRingUptoCard : Claim7 := { stood := { row := polyRingUptoRow, standIns := [], harness := (true, "0849b71c5d0e821fcd5042840e6db65327992ba149fd89da1584647c5c4e50e3"), looks := false }, kinds := [], alts := [], laidByText := true, laidKinds := [.data, .data, .data, .data, .pinned], laidTests := true, laidLooks := .later }
def PolyRingUptoCardSaid : Prop := Claim7.holds Tryz.pinned (.plain (OpenSpec.upto polyRingSpec)) polyRingUptoCard
end Rows
end Go.Proofs.YtjamgccgoapbeaaGreatDoor
