/-
  DERIVED. GIVEN WITH THE SEED: THE CARDS: each row of YtpgdefgdboijlaaGreatDoorRows.lean that lists a variable, with what it lists TIED to the program's text (the seventh form; the later family's looks); each row that meets fmt, with fmt's text TOLD by the authors' own Lean function (tested against real Go, not proved from fmt's source: count such statements apart). THE CARD IS WHAT COUNTS. Prove the row's statement (the work); the ties are given (YtpgdefgdboijlaaGreatDoorTie.lean); close each card by the builder's one call (the guide's Derived/Test/ToyasCard.lean, 'card_holds'). Laid BY PROGRAM, IN A SANDBOX (cutbox-door.mjs). By AI agents, Wed Nov 11 2026. No macro, syntax, notation, axiom, sorry.
-/
import Derived.Test.YtpgdefgdboijlaaGreatDoorRows
import GoSem.ClaimSeven
namespace Go.Proofs.YtpgdefgdboijlaaGreatDoor
namespace Rows

/-- THE TIED CARD OF 'pentodelaw01.ValueReads'. -/
def valueReadsCard : Claim7 := { stood := { row := valueReadsRow, standIns := [], harness := (true, "3950c7aadca52300f1fcc4f6c401111be774bc00a9193b06b4fc63ab71e2e5ab"), looks := false }, kinds := [], alts := [], laidByText := true, laidKinds := [.data, .data, .data, .data, .widerDeep, .pinned], laidTests := true, laidLooks := .later }
def ValueReadsCardSaid : Prop := Claim7.holds Tryz.pinned (.plain (OpenSpec.ofChange valueReadsSpec)) valueReadsCard

/-- THE TIED CARD OF 'pentodelaw01.ValueInts'. -/
def valueIntsCard : Claim7 := { stood := { row := valueIntsRow, standIns := [], harness := (true, "3950c7aadca52300f1fcc4f6c401111be774bc00a9193b06b4fc63ab71e2e5ab"), looks := false }, kinds := [], alts := [], laidByText := true, laidKinds := [.data, .data, .data, .data, .widerDeep, .pinned], laidTests := true, laidLooks := .later }
def ValueIntsCardSaid : Prop := Claim7.holds Tryz.pinned (.plain (OpenSpec.ofChange valueIntsSpec)) valueIntsCard

/-- THE TIED CARD OF 'pentodelaw01.ValueShows'. -/
def valueShowsCard : Claim7 := { stood := { row := valueShowsRow, standIns := [], harness := (true, "3950c7aadca52300f1fcc4f6c401111be774bc00a9193b06b4fc63ab71e2e5ab"), looks := false }, kinds := [], alts := [], laidByText := true, laidKinds := [.data, .data, .data, .data, .widerDeep, .pinned], laidTests := true, laidLooks := .later }
def ValueShowsCardSaid : Prop := Claim7.holds Tryz.pinned (.plain (OpenSpec.ofChange valueShowsSpec)) valueShowsCard

/-- THE TIED CARD OF 'pentodelaw01.ValueRounds'. -/
def valueRoundsCard : Claim7 := { stood := { row := valueRoundsRow, standIns := [], harness := (true, "3950c7aadca52300f1fcc4f6c401111be774bc00a9193b06b4fc63ab71e2e5ab"), looks := false }, kinds := [], alts := [], laidByText := true, laidKinds := [.data, .data, .data, .data, .widerDeep, .pinned], laidTests := true, laidLooks := .later }
def ValueRoundsCardSaid : Prop := Claim7.holds Tryz.pinned (.plain (OpenSpec.ofChange valueRoundsSpec)) valueRoundsCard

/-- THE TIED CARD OF 'pentodelaw01.ValueParses'. -/
def valueParsesCard : Claim7 := { stood := { row := valueParsesRow, standIns := [], harness := (true, "3950c7aadca52300f1fcc4f6c401111be774bc00a9193b06b4fc63ab71e2e5ab"), looks := false }, kinds := [], alts := [], laidByText := true, laidKinds := [.data, .data, .data, .data, .widerDeep, .pinned], laidTests := true, laidLooks := .later }
def ValueParsesCardSaid : Prop := Claim7.holds Tryz.pinned (.plain (OpenSpec.ofChange valueParsesSpec)) valueParsesCard

/-- THE TIED CARD OF 'pentodelaw01.ValueNear'. -/
def valueNearCard : Claim7 := { stood := { row := valueNearRow, standIns := [], harness := (true, "3950c7aadca52300f1fcc4f6c401111be774bc00a9193b06b4fc63ab71e2e5ab"), looks := false }, kinds := [], alts := [], laidByText := true, laidKinds := [.data, .data, .data, .data, .widerDeep, .pinned], laidTests := true, laidLooks := .later }
def ValueNearCardSaid : Prop := Claim7.holds Tryz.pinned (.plain (OpenSpec.ofChange valueNearSpec)) valueNearCard

/-- THE TIED CARD OF 'pentodelaw01.ValueField'. -/
def valueFieldCard : Claim7 := { stood := { row := valueFieldRow, standIns := [], harness := (true, "3950c7aadca52300f1fcc4f6c401111be774bc00a9193b06b4fc63ab71e2e5ab"), looks := false }, kinds := [], alts := [], laidByText := true, laidKinds := [.data, .data, .data, .data, .widerDeep, .pinned], laidTests := true, laidLooks := .later }
def ValueFieldCardSaid : Prop := Claim7.holds Tryz.pinned (.plain (OpenSpec.ofChange valueFieldSpec)) valueFieldCard

/-- THE TIED CARD OF 'pentodelaw01.ValueTexts'. -/
def valueTextsCard : Claim7 := { stood := { row := valueTextsRow, standIns := [], harness := (true, "3950c7aadca52300f1fcc4f6c401111be774bc00a9193b06b4fc63ab71e2e5ab"), looks := false }, kinds := [], alts := [], laidByText := true, laidKinds := [.data, .data, .data, .data, .widerDeep, .pinned], laidTests := true, laidLooks := .later }
def ValueTextsCardSaid : Prop := Claim7.holds Tryz.pinned (.plain (OpenSpec.ofChange valueTextsSpec)) valueTextsCard

/-- THE TIED CARD OF 'pentodelaw01.ValueComputes'. -/
def valueComputesCard : Claim7 := { stood := { row := valueComputesRow, standIns := [], harness := (true, "3950c7aadca52300f1fcc4f6c401111be774bc00a9193b06b4fc63ab71e2e5ab"), looks := false }, kinds := [], alts := [], laidByText := true, laidKinds := [.data, .data, .data, .data, .widerDeep, .pinned], laidTests := true, laidLooks := .later }
def ValueComputesCardSaid : Prop := Claim7.holds Tryz.pinned (.plain (OpenSpec.ofChange valueComputesSpec)) valueComputesCard

/-- THE TIED CARD OF 'pentodelaw01.ValueOrder'. -/
def valueOrderCard : Claim7 := { stood := { row := valueOrderRow, standIns := [], harness := (true, "3950c7aadca52300f1fcc4f6c401111be774bc00a9193b06b4fc63ab71e2e5ab"), looks := false }, kinds := [], alts := [], laidByText := true, laidKinds := [.data, .data, .data, .data, .widerDeep, .pinned], laidTests := true, laidLooks := .later }
def ValueOrderCardSaid : Prop := Claim7.holds Tryz.pinned (.plain (OpenSpec.ofChange valueOrderSpec)) valueOrderCard

/-- THE TIED CARD OF 'pentodelaw01.ValueKnown'. -/
def valueKnownCard : Claim7 := { stood := { row := valueKnownRow, standIns := [], harness := (true, "3950c7aadca52300f1fcc4f6c401111be774bc00a9193b06b4fc63ab71e2e5ab"), looks := false }, kinds := [], alts := [], laidByText := true, laidKinds := [.data, .data, .data, .data, .widerDeep, .pinned], laidTests := true, laidLooks := .later }
def ValueKnownCardSaid : Prop := Claim7.holds Tryz.pinned (.plain (OpenSpec.ofChange valueKnownSpec)) valueKnownCard

/-- THE TIED CARD OF 'pentodelaw01.ValueIncludes'. -/
def valueIncludesCard : Claim7 := { stood := { row := valueIncludesRow, standIns := [], harness := (true, "3950c7aadca52300f1fcc4f6c401111be774bc00a9193b06b4fc63ab71e2e5ab"), looks := false }, kinds := [], alts := [], laidByText := true, laidKinds := [.data, .data, .data, .data, .widerDeep, .pinned], laidTests := true, laidLooks := .later }
def ValueIncludesCardSaid : Prop := Claim7.holds Tryz.pinned (.plain (OpenSpec.ofChange valueIncludesSpec)) valueIncludesCard

/-- THE TIED CARD OF 'pentodelaw01.ValueSpans'. -/
def valueSpansCard : Claim7 := { stood := { row := valueSpansRow, standIns := [], harness := (true, "3950c7aadca52300f1fcc4f6c401111be774bc00a9193b06b4fc63ab71e2e5ab"), looks := false }, kinds := [], alts := [], laidByText := true, laidKinds := [.data, .data, .data, .data, .widerDeep, .pinned], laidTests := true, laidLooks := .later }
def ValueSpansCardSaid : Prop := Claim7.holds Tryz.pinned (.plain (OpenSpec.ofChange valueSpansSpec)) valueSpansCard

/-- THE SECOND FORM's CARD OF 'pentodelaw01.ValueReads'. -/
def valueReadsUptoCard : Claim7 := { stood := { row := valueReadsUptoRow, standIns := [], harness := (true, "3950c7aadca52300f1fcc4f6c401111be774bc00a9193b06b4fc63ab71e2e5ab"), looks := false }, kinds := [], alts := [], laidByText := true, laidKinds := [.data, .data, .data, .data, .widerDeep, .pinned], laidTests := true, laidLooks := .later }
def ValueReadsUptoCardSaid : Prop := Claim7.holds Tryz.pinned (.plain (OpenSpec.upto valueReadsSpec)) valueReadsUptoCard

/-- THE SECOND FORM's CARD OF 'pentodelaw01.ValueInts'. -/
def valueIntsUptoCard : Claim7 := { stood := { row := valueIntsUptoRow, standIns := [], harness := (true, "3950c7aadca52300f1fcc4f6c401111be774bc00a9193b06b4fc63ab71e2e5ab"), looks := false }, kinds := [], alts := [], laidByText := true, laidKinds := [.data, .data, .data, .data, .widerDeep, .pinned], laidTests := true, laidLooks := .later }
def ValueIntsUptoCardSaid : Prop := Claim7.holds Tryz.pinned (.plain (OpenSpec.upto valueIntsSpec)) valueIntsUptoCard

/-- THE SECOND FORM's CARD OF 'pentodelaw01.ValueShows'. -/
def valueShowsUptoCard : Claim7 := { stood := { row := valueShowsUptoRow, standIns := [], harness := (true, "3950c7aadca52300f1fcc4f6c401111be774bc00a9193b06b4fc63ab71e2e5ab"), looks := false }, kinds := [], alts := [], laidByText := true, laidKinds := [.data, .data, .data, .data, .widerDeep, .pinned], laidTests := true, laidLooks := .later }
def ValueShowsUptoCardSaid : Prop := Claim7.holds Tryz.pinned (.plain (OpenSpec.upto valueShowsSpec)) valueShowsUptoCard

/-- THE SECOND FORM's CARD OF 'pentodelaw01.ValueRounds'. -/
def valueRoundsUptoCard : Claim7 := { stood := { row := valueRoundsUptoRow, standIns := [], harness := (true, "3950c7aadca52300f1fcc4f6c401111be774bc00a9193b06b4fc63ab71e2e5ab"), looks := false }, kinds := [], alts := [], laidByText := true, laidKinds := [.data, .data, .data, .data, .widerDeep, .pinned], laidTests := true, laidLooks := .later }
def ValueRoundsUptoCardSaid : Prop := Claim7.holds Tryz.pinned (.plain (OpenSpec.upto valueRoundsSpec)) valueRoundsUptoCard

/-- THE SECOND FORM's CARD OF 'pentodelaw01.ValueParses'. -/
def valueParsesUptoCard : Claim7 := { stood := { row := valueParsesUptoRow, standIns := [], harness := (true, "3950c7aadca52300f1fcc4f6c401111be774bc00a9193b06b4fc63ab71e2e5ab"), looks := false }, kinds := [], alts := [], laidByText := true, laidKinds := [.data, .data, .data, .data, .widerDeep, .pinned], laidTests := true, laidLooks := .later }
def ValueParsesUptoCardSaid : Prop := Claim7.holds Tryz.pinned (.plain (OpenSpec.upto valueParsesSpec)) valueParsesUptoCard

/-- THE SECOND FORM's CARD OF 'pentodelaw01.ValueNear'. -/
def valueNearUptoCard : Claim7 := { stood := { row := valueNearUptoRow, standIns := [], harness := (true, "3950c7aadca52300f1fcc4f6c401111be774bc00a9193b06b4fc63ab71e2e5ab"), looks := false }, kinds := [], alts := [], laidByText := true, laidKinds := [.data, .data, .data, .data, .widerDeep, .pinned], laidTests := true, laidLooks := .later }
def ValueNearUptoCardSaid : Prop := Claim7.holds Tryz.pinned (.plain (OpenSpec.upto valueNearSpec)) valueNearUptoCard

/-- THE SECOND FORM's CARD OF 'pentodelaw01.ValueField'. -/
def valueFieldUptoCard : Claim7 := { stood := { row := valueFieldUptoRow, standIns := [], harness := (true, "3950c7aadca52300f1fcc4f6c401111be774bc00a9193b06b4fc63ab71e2e5ab"), looks := false }, kinds := [], alts := [], laidByText := true, laidKinds := [.data, .data, .data, .data, .widerDeep, .pinned], laidTests := true, laidLooks := .later }
def ValueFieldUptoCardSaid : Prop := Claim7.holds Tryz.pinned (.plain (OpenSpec.upto valueFieldSpec)) valueFieldUptoCard

/-- THE SECOND FORM's CARD OF 'pentodelaw01.ValueTexts'. -/
def valueTextsUptoCard : Claim7 := { stood := { row := valueTextsUptoRow, standIns := [], harness := (true, "3950c7aadca52300f1fcc4f6c401111be774bc00a9193b06b4fc63ab71e2e5ab"), looks := false }, kinds := [], alts := [], laidByText := true, laidKinds := [.data, .data, .data, .data, .widerDeep, .pinned], laidTests := true, laidLooks := .later }
def ValueTextsUptoCardSaid : Prop := Claim7.holds Tryz.pinned (.plain (OpenSpec.upto valueTextsSpec)) valueTextsUptoCard

/-- THE SECOND FORM's CARD OF 'pentodelaw01.ValueComputes'. -/
def valueComputesUptoCard : Claim7 := { stood := { row := valueComputesUptoRow, standIns := [], harness := (true, "3950c7aadca52300f1fcc4f6c401111be774bc00a9193b06b4fc63ab71e2e5ab"), looks := false }, kinds := [], alts := [], laidByText := true, laidKinds := [.data, .data, .data, .data, .widerDeep, .pinned], laidTests := true, laidLooks := .later }
def ValueComputesUptoCardSaid : Prop := Claim7.holds Tryz.pinned (.plain (OpenSpec.upto valueComputesSpec)) valueComputesUptoCard

/-- THE SECOND FORM's CARD OF 'pentodelaw01.ValueOrder'. -/
def valueOrderUptoCard : Claim7 := { stood := { row := valueOrderUptoRow, standIns := [], harness := (true, "3950c7aadca52300f1fcc4f6c401111be774bc00a9193b06b4fc63ab71e2e5ab"), looks := false }, kinds := [], alts := [], laidByText := true, laidKinds := [.data, .data, .data, .data, .widerDeep, .pinned], laidTests := true, laidLooks := .later }
def ValueOrderUptoCardSaid : Prop := Claim7.holds Tryz.pinned (.plain (OpenSpec.upto valueOrderSpec)) valueOrderUptoCard

/-- THE SECOND FORM's CARD OF 'pentodelaw01.ValueKnown'. -/
def valueKnownUptoCard : Claim7 := { stood := { row := valueKnownUptoRow, standIns := [], harness := (true, "3950c7aadca52300f1fcc4f6c401111be774bc00a9193b06b4fc63ab71e2e5ab"), looks := false }, kinds := [], alts := [], laidByText := true, laidKinds := [.data, .data, .data, .data, .widerDeep, .pinned], laidTests := true, laidLooks := .later }
def ValueKnownUptoCardSaid : Prop := Claim7.holds Tryz.pinned (.plain (OpenSpec.upto valueKnownSpec)) valueKnownUptoCard

/-- THE SECOND FORM's CARD OF 'pentodelaw01.ValueIncludes'. -/
def valueIncludesUptoCard : Claim7 := { stood := { row := valueIncludesUptoRow, standIns := [], harness := (true, "3950c7aadca52300f1fcc4f6c401111be774bc00a9193b06b4fc63ab71e2e5ab"), looks := false }, kinds := [], alts := [], laidByText := true, laidKinds := [.data, .data, .data, .data, .widerDeep, .pinned], laidTests := true, laidLooks := .later }
def ValueIncludesUptoCardSaid : Prop := Claim7.holds Tryz.pinned (.plain (OpenSpec.upto valueIncludesSpec)) valueIncludesUptoCard

/-- THE SECOND FORM's CARD OF 'pentodelaw01.ValueSpans'. -/
def valueSpansUptoCard : Claim7 := { stood := { row := valueSpansUptoRow, standIns := [], harness := (true, "3950c7aadca52300f1fcc4f6c401111be774bc00a9193b06b4fc63ab71e2e5ab"), looks := false }, kinds := [], alts := [], laidByText := true, laidKinds := [.data, .data, .data, .data, .widerDeep, .pinned], laidTests := true, laidLooks := .later }
def ValueSpansUptoCardSaid : Prop := Claim7.holds Tryz.pinned (.plain (OpenSpec.upto valueSpansSpec)) valueSpansUptoCard
end Rows
end Go.Proofs.YtpgdefgdboijlaaGreatDoor
