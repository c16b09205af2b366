/-
  DERIVED. GIVEN WITH THE SEED: THE CARDS: each row of YtnhbfdigohiggaaGreatDoorRows.lean that lists a variable, with what it lists TIED to the program's text (the seventh form; the later family's looks); each row that meets fmt, with fmt's text TOLD by the authors' own Lean function (tested against real Go, not proved from fmt's source: count such statements apart). THE CARD IS WHAT COUNTS. Prove the row's statement (the work); the ties are given (YtnhbfdigohiggaaGreatDoorTie.lean); close each card by the builder's one call (the guide's Derived/Test/ToyasCard.lean, 'card_holds'). Laid BY PROGRAM, IN A SANDBOX (cutbox-door.mjs). By AI agents, Wed Nov 11 2026. No macro, syntax, notation, axiom, sorry.
-/
import Derived.Test.YtnhbfdigohiggaaGreatDoorRows
import GoSem.ClaimSeven
namespace Go.Proofs.YtnhbfdigohiggaaGreatDoor
namespace Rows

/-- THE TIED CARD OF 'leatworklaw05.KernelMakes'. -/
def kernelMakesCard : Claim7 := { stood := { row := kernelMakesRow, standIns := [], harness := (true, "6955e5cb4d9908ab08a7b0b5a5fa865801a88ab43d88c319805a1e55d1fbcd6d"), looks := true }, kinds := [], alts := [], laidByText := true, laidKinds := [.listed, .data, .widerDeep], laidTests := true, laidLooks := .later }
def KernelMakesCardSaid : Prop := Claim7.holds Tryz.pinned (.plain (OpenSpec.ofChange kernelMakesSpec)) kernelMakesCard

/-- THE TIED CARD OF 'leatworklaw05.KernelReads'. -/
def kernelReadsCard : Claim7 := { stood := { row := kernelReadsRow, standIns := [], harness := (true, "6955e5cb4d9908ab08a7b0b5a5fa865801a88ab43d88c319805a1e55d1fbcd6d"), looks := true }, kinds := [], alts := [], laidByText := true, laidKinds := [.listed, .data, .widerDeep], laidTests := true, laidLooks := .later }
def KernelReadsCardSaid : Prop := Claim7.holds Tryz.pinned (.plain (OpenSpec.ofChange kernelReadsSpec)) kernelReadsCard

/-- THE TIED CARD OF 'leatworklaw05.KernelBuiltins'. -/
def kernelBuiltinsCard : Claim7 := { stood := { row := kernelBuiltinsRow, standIns := [], harness := (true, "6955e5cb4d9908ab08a7b0b5a5fa865801a88ab43d88c319805a1e55d1fbcd6d"), looks := true }, kinds := [], alts := [], laidByText := true, laidKinds := [.listed, .data, .widerDeep], laidTests := true, laidLooks := .later }
def KernelBuiltinsCardSaid : Prop := Claim7.holds Tryz.pinned (.plain (OpenSpec.ofChange kernelBuiltinsSpec)) kernelBuiltinsCard

/-- THE TIED CARD OF 'leatworklaw05.KernelKnown'. -/
def kernelKnownCard : Claim7 := { stood := { row := kernelKnownRow, standIns := [], harness := (true, "6955e5cb4d9908ab08a7b0b5a5fa865801a88ab43d88c319805a1e55d1fbcd6d"), looks := true }, kinds := [], alts := [], laidByText := true, laidKinds := [.listed, .data, .widerDeep], laidTests := true, laidLooks := .later }
def KernelKnownCardSaid : Prop := Claim7.holds Tryz.pinned (.plain (OpenSpec.ofChange kernelKnownSpec)) kernelKnownCard

/-- THE TIED CARD OF 'leatworklaw05.KernelNames'. -/
def kernelNamesCard : Claim7 := { stood := { row := kernelNamesRow, standIns := [], harness := (true, "6955e5cb4d9908ab08a7b0b5a5fa865801a88ab43d88c319805a1e55d1fbcd6d"), looks := true }, kinds := [], alts := [], laidByText := true, laidKinds := [.listed, .data, .widerDeep], laidTests := true, laidLooks := .later }
def KernelNamesCardSaid : Prop := Claim7.holds Tryz.pinned (.plain (OpenSpec.ofChange kernelNamesSpec)) kernelNamesCard

/-- THE TIED CARD OF 'leatworklaw05.KernelValid'. -/
def kernelValidCard : Claim7 := { stood := { row := kernelValidRow, standIns := [], harness := (true, "6955e5cb4d9908ab08a7b0b5a5fa865801a88ab43d88c319805a1e55d1fbcd6d"), looks := true }, kinds := [], alts := [], laidByText := true, laidKinds := [.listed, .data, .widerDeep], laidTests := true, laidLooks := .later }
def KernelValidCardSaid : Prop := Claim7.holds Tryz.pinned (.plain (OpenSpec.ofChange kernelValidSpec)) kernelValidCard

/-- THE TIED CARD OF 'leatworklaw05.KernelRight'. -/
def kernelRightCard : Claim7 := { stood := { row := kernelRightRow, standIns := [], harness := (true, "6955e5cb4d9908ab08a7b0b5a5fa865801a88ab43d88c319805a1e55d1fbcd6d"), looks := true }, kinds := [], alts := [], laidByText := true, laidKinds := [.listed, .data, .widerDeep], laidTests := true, laidLooks := .later }
def KernelRightCardSaid : Prop := Claim7.holds Tryz.pinned (.plain (OpenSpec.ofChange kernelRightSpec)) kernelRightCard

/-- THE TIED CARD OF 'leatworklaw05.KernelHidden'. -/
def kernelHiddenCard : Claim7 := { stood := { row := kernelHiddenRow, standIns := [], harness := (true, "6955e5cb4d9908ab08a7b0b5a5fa865801a88ab43d88c319805a1e55d1fbcd6d"), looks := true }, kinds := [], alts := [], laidByText := true, laidKinds := [.listed, .data, .widerDeep], laidTests := true, laidLooks := .later }
def KernelHiddenCardSaid : Prop := Claim7.holds Tryz.pinned (.plain (OpenSpec.ofChange kernelHiddenSpec)) kernelHiddenCard

/-- THE TIED CARD OF 'leatworklaw05.KernelPlain'. -/
def kernelPlainCard : Claim7 := { stood := { row := kernelPlainRow, standIns := [], harness := (true, "6955e5cb4d9908ab08a7b0b5a5fa865801a88ab43d88c319805a1e55d1fbcd6d"), looks := true }, kinds := [], alts := [], laidByText := true, laidKinds := [.listed, .data, .widerDeep], laidTests := true, laidLooks := .later }
def KernelPlainCardSaid : Prop := Claim7.holds Tryz.pinned (.plain (OpenSpec.ofChange kernelPlainSpec)) kernelPlainCard

/-- THE TIED CARD OF 'leatworklaw05.KernelFree'. -/
def kernelFreeCard : Claim7 := { stood := { row := kernelFreeRow, standIns := [], harness := (true, "6955e5cb4d9908ab08a7b0b5a5fa865801a88ab43d88c319805a1e55d1fbcd6d"), looks := true }, kinds := [], alts := [], laidByText := true, laidKinds := [.listed, .data, .widerDeep], laidTests := true, laidLooks := .later }
def KernelFreeCardSaid : Prop := Claim7.holds Tryz.pinned (.plain (OpenSpec.ofChange kernelFreeSpec)) kernelFreeCard

/-- THE TIED CARD OF 'leatworklaw05.KernelTexts'. -/
def kernelTextsCard : Claim7 := { stood := { row := kernelTextsRow, standIns := [], harness := (true, "6955e5cb4d9908ab08a7b0b5a5fa865801a88ab43d88c319805a1e55d1fbcd6d"), looks := true }, kinds := [], alts := [], laidByText := true, laidKinds := [.data, .data, .data, .listed, .data, .widerDeep], laidTests := true, laidLooks := .later }
def KernelTextsCardSaid : Prop := Claim7.holds Tryz.pinned (.plain (OpenSpec.ofChange kernelTextsSpec)) kernelTextsCard

/-- THE TIED CARD OF 'leatworklaw05.KernelTexted'. -/
def kernelTextedCard : Claim7 := { stood := { row := kernelTextedRow, standIns := [], harness := (true, "6955e5cb4d9908ab08a7b0b5a5fa865801a88ab43d88c319805a1e55d1fbcd6d"), looks := true }, kinds := [], alts := [], laidByText := true, laidKinds := [.data, .data, .data, .listed, .data, .widerDeep], laidTests := true, laidLooks := .later }
def KernelTextedCardSaid : Prop := Claim7.holds Tryz.pinned (.plain (OpenSpec.ofChange kernelTextedSpec)) kernelTextedCard

/-- THE SECOND FORM's CARD OF 'leatworklaw05.KernelMakes'. -/
def kernelMakesUptoCard : Claim7 := { stood := { row := kernelMakesUptoRow, standIns := [], harness := (true, "6955e5cb4d9908ab08a7b0b5a5fa865801a88ab43d88c319805a1e55d1fbcd6d"), looks := true }, kinds := [], alts := [], laidByText := true, laidKinds := [.listed, .data, .widerDeep], laidTests := true, laidLooks := .later }
def KernelMakesUptoCardSaid : Prop := Claim7.holds Tryz.pinned (.plain (OpenSpec.upto kernelMakesSpec)) kernelMakesUptoCard

/-- THE SECOND FORM's CARD OF 'leatworklaw05.KernelReads'. -/
def kernelReadsUptoCard : Claim7 := { stood := { row := kernelReadsUptoRow, standIns := [], harness := (true, "6955e5cb4d9908ab08a7b0b5a5fa865801a88ab43d88c319805a1e55d1fbcd6d"), looks := true }, kinds := [], alts := [], laidByText := true, laidKinds := [.listed, .data, .widerDeep], laidTests := true, laidLooks := .later }
def KernelReadsUptoCardSaid : Prop := Claim7.holds Tryz.pinned (.plain (OpenSpec.upto kernelReadsSpec)) kernelReadsUptoCard

/-- THE SECOND FORM's CARD OF 'leatworklaw05.KernelBuiltins'. -/
def kernelBuiltinsUptoCard : Claim7 := { stood := { row := kernelBuiltinsUptoRow, standIns := [], harness := (true, "6955e5cb4d9908ab08a7b0b5a5fa865801a88ab43d88c319805a1e55d1fbcd6d"), looks := true }, kinds := [], alts := [], laidByText := true, laidKinds := [.listed, .data, .widerDeep], laidTests := true, laidLooks := .later }
def KernelBuiltinsUptoCardSaid : Prop := Claim7.holds Tryz.pinned (.plain (OpenSpec.upto kernelBuiltinsSpec)) kernelBuiltinsUptoCard

/-- THE SECOND FORM's CARD OF 'leatworklaw05.KernelKnown'. -/
def kernelKnownUptoCard : Claim7 := { stood := { row := kernelKnownUptoRow, standIns := [], harness := (true, "6955e5cb4d9908ab08a7b0b5a5fa865801a88ab43d88c319805a1e55d1fbcd6d"), looks := true }, kinds := [], alts := [], laidByText := true, laidKinds := [.listed, .data, .widerDeep], laidTests := true, laidLooks := .later }
def KernelKnownUptoCardSaid : Prop := Claim7.holds Tryz.pinned (.plain (OpenSpec.upto kernelKnownSpec)) kernelKnownUptoCard

/-- THE SECOND FORM's CARD OF 'leatworklaw05.KernelNames'. -/
def kernelNamesUptoCard : Claim7 := { stood := { row := kernelNamesUptoRow, standIns := [], harness := (true, "6955e5cb4d9908ab08a7b0b5a5fa865801a88ab43d88c319805a1e55d1fbcd6d"), looks := true }, kinds := [], alts := [], laidByText := true, laidKinds := [.listed, .data, .widerDeep], laidTests := true, laidLooks := .later }
def KernelNamesUptoCardSaid : Prop := Claim7.holds Tryz.pinned (.plain (OpenSpec.upto kernelNamesSpec)) kernelNamesUptoCard

/-- THE SECOND FORM's CARD OF 'leatworklaw05.KernelValid'. -/
def kernelValidUptoCard : Claim7 := { stood := { row := kernelValidUptoRow, standIns := [], harness := (true, "6955e5cb4d9908ab08a7b0b5a5fa865801a88ab43d88c319805a1e55d1fbcd6d"), looks := true }, kinds := [], alts := [], laidByText := true, laidKinds := [.listed, .data, .widerDeep], laidTests := true, laidLooks := .later }
def KernelValidUptoCardSaid : Prop := Claim7.holds Tryz.pinned (.plain (OpenSpec.upto kernelValidSpec)) kernelValidUptoCard

/-- THE SECOND FORM's CARD OF 'leatworklaw05.KernelRight'. -/
def kernelRightUptoCard : Claim7 := { stood := { row := kernelRightUptoRow, standIns := [], harness := (true, "6955e5cb4d9908ab08a7b0b5a5fa865801a88ab43d88c319805a1e55d1fbcd6d"), looks := true }, kinds := [], alts := [], laidByText := true, laidKinds := [.listed, .data, .widerDeep], laidTests := true, laidLooks := .later }
def KernelRightUptoCardSaid : Prop := Claim7.holds Tryz.pinned (.plain (OpenSpec.upto kernelRightSpec)) kernelRightUptoCard

/-- THE SECOND FORM's CARD OF 'leatworklaw05.KernelHidden'. -/
def kernelHiddenUptoCard : Claim7 := { stood := { row := kernelHiddenUptoRow, standIns := [], harness := (true, "6955e5cb4d9908ab08a7b0b5a5fa865801a88ab43d88c319805a1e55d1fbcd6d"), looks := true }, kinds := [], alts := [], laidByText := true, laidKinds := [.listed, .data, .widerDeep], laidTests := true, laidLooks := .later }
def KernelHiddenUptoCardSaid : Prop := Claim7.holds Tryz.pinned (.plain (OpenSpec.upto kernelHiddenSpec)) kernelHiddenUptoCard

/-- THE SECOND FORM's CARD OF 'leatworklaw05.KernelPlain'. -/
def kernelPlainUptoCard : Claim7 := { stood := { row := kernelPlainUptoRow, standIns := [], harness := (true, "6955e5cb4d9908ab08a7b0b5a5fa865801a88ab43d88c319805a1e55d1fbcd6d"), looks := true }, kinds := [], alts := [], laidByText := true, laidKinds := [.listed, .data, .widerDeep], laidTests := true, laidLooks := .later }
def KernelPlainUptoCardSaid : Prop := Claim7.holds Tryz.pinned (.plain (OpenSpec.upto kernelPlainSpec)) kernelPlainUptoCard

/-- THE SECOND FORM's CARD OF 'leatworklaw05.KernelFree'. -/
def kernelFreeUptoCard : Claim7 := { stood := { row := kernelFreeUptoRow, standIns := [], harness := (true, "6955e5cb4d9908ab08a7b0b5a5fa865801a88ab43d88c319805a1e55d1fbcd6d"), looks := true }, kinds := [], alts := [], laidByText := true, laidKinds := [.listed, .data, .widerDeep], laidTests := true, laidLooks := .later }
def KernelFreeUptoCardSaid : Prop := Claim7.holds Tryz.pinned (.plain (OpenSpec.upto kernelFreeSpec)) kernelFreeUptoCard

/-- THE SECOND FORM's CARD OF 'leatworklaw05.KernelTexts'. -/
def kernelTextsUptoCard : Claim7 := { stood := { row := kernelTextsUptoRow, standIns := [], harness := (true, "6955e5cb4d9908ab08a7b0b5a5fa865801a88ab43d88c319805a1e55d1fbcd6d"), looks := true }, kinds := [], alts := [], laidByText := true, laidKinds := [.data, .data, .data, .listed, .data, .widerDeep], laidTests := true, laidLooks := .later }
def KernelTextsUptoCardSaid : Prop := Claim7.holds Tryz.pinned (.plain (OpenSpec.upto kernelTextsSpec)) kernelTextsUptoCard

/-- THE SECOND FORM's CARD OF 'leatworklaw05.KernelTexted'. -/
def kernelTextedUptoCard : Claim7 := { stood := { row := kernelTextedUptoRow, standIns := [], harness := (true, "6955e5cb4d9908ab08a7b0b5a5fa865801a88ab43d88c319805a1e55d1fbcd6d"), looks := true }, kinds := [], alts := [], laidByText := true, laidKinds := [.data, .data, .data, .listed, .data, .widerDeep], laidTests := true, laidLooks := .later }
def KernelTextedUptoCardSaid : Prop := Claim7.holds Tryz.pinned (.plain (OpenSpec.upto kernelTextedSpec)) kernelTextedUptoCard
end Rows
end Go.Proofs.YtnhbfdigohiggaaGreatDoor
