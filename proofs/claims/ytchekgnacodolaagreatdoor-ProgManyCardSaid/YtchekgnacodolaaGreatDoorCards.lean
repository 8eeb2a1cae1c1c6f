/-
  DERIVED. GIVEN WITH THE SEED: THE CARDS: each row of YtchekgnacodolaaGreatDoorRows.lean that lists a variable, with what it lists TIED to the program's text (the seventh form; the later family's looks); each row that meets fmt, with fmt's text TOLD by the authors' own Lean function (tested against real Go, not proved from fmt's source: count such statements apart). THE CARD IS WHAT COUNTS. Prove the row's statement (the work); the ties are given (YtchekgnacodolaaGreatDoorTie.lean); close each card by the builder's one call (the guide's Derived/Test/ToyasCard.lean, 'card_holds'). Laid BY PROGRAM, IN A SANDBOX (cutbox-door.mjs). By AI agents, Wed Nov 11 2026. No macro, syntax, notation, axiom, sorry.
-/
import Derived.Test.YtchekgnacodolaaGreatDoorRows
import GoSem.ClaimSeven
namespace Go.Proofs.YtchekgnacodolaaGreatDoor
namespace Rows

/-- THE TIED CARD OF 'chancellaw05.ParseTells'. -/
def parseTellsCard : Claim7 := { stood := { row := parseTellsRow, standIns := [], harness := (true, "8769f72f6d93eddb666e92f81d7c5014a74f8928fd3d139485e8c0f199f7f971"), looks := true }, kinds := [], alts := [], laidByText := true, laidKinds := [.data, .data, .data, .handle, .sentinel, .sentinel, .widerDeep, .widerDeep, .sentinel], laidTests := true, laidLooks := .later }
def ParseTellsCardSaid : Prop := Claim7.holds Tryz.pinned (.plain (OpenSpec.ofChange parseTellsSpec)) parseTellsCard

/-- THE TIED CARD OF 'chancellaw05.ParseDeep'. -/
def parseDeepCard : Claim7 := { stood := { row := parseDeepRow, standIns := [], harness := (true, "8769f72f6d93eddb666e92f81d7c5014a74f8928fd3d139485e8c0f199f7f971"), looks := true }, kinds := [], alts := [], laidByText := true, laidKinds := [.data, .data, .data, .handle, .sentinel, .sentinel, .widerDeep, .widerDeep, .sentinel], laidTests := true, laidLooks := .later }
def ParseDeepCardSaid : Prop := Claim7.holds Tryz.pinned (.plain (OpenSpec.ofChange parseDeepSpec)) parseDeepCard

/-- THE TIED CARD OF 'chancellaw05.ParseToks'. -/
def parseToksCard : Claim7 := { stood := { row := parseToksRow, standIns := [], harness := (true, "8769f72f6d93eddb666e92f81d7c5014a74f8928fd3d139485e8c0f199f7f971"), looks := true }, kinds := [], alts := [], laidByText := true, laidKinds := [.data, .data, .data, .handle, .sentinel, .sentinel, .widerDeep, .widerDeep, .sentinel], laidTests := true, laidLooks := .later }
def ParseToksCardSaid : Prop := Claim7.holds Tryz.pinned (.plain (OpenSpec.ofChange parseToksSpec)) parseToksCard

/-- THE TIED CARD OF 'chancellaw05.ParseRight'. -/
def parseRightCard : Claim7 := { stood := { row := parseRightRow, standIns := [], harness := (true, "8769f72f6d93eddb666e92f81d7c5014a74f8928fd3d139485e8c0f199f7f971"), looks := true }, kinds := [], alts := [], laidByText := true, laidKinds := [.data, .data, .data, .handle, .sentinel, .sentinel, .widerDeep, .widerDeep, .data, .widerDeep, .sentinel], laidTests := true, laidLooks := .later }
def ParseRightCardSaid : Prop := Claim7.holds Tryz.pinned (.plain (OpenSpec.ofChange parseRightSpec)) parseRightCard

/-- THE TIED CARD OF 'chancellaw05.ParseParens'. -/
def parseParensCard : Claim7 := { stood := { row := parseParensRow, standIns := [], harness := (true, "8769f72f6d93eddb666e92f81d7c5014a74f8928fd3d139485e8c0f199f7f971"), looks := true }, kinds := [], alts := [], laidByText := true, laidKinds := [.data, .data, .data, .handle, .sentinel, .sentinel, .widerDeep, .widerDeep, .data, .widerDeep, .sentinel], laidTests := true, laidLooks := .later }
def ParseParensCardSaid : Prop := Claim7.holds Tryz.pinned (.plain (OpenSpec.ofChange parseParensSpec)) parseParensCard

/-- THE TIED CARD OF 'chancellaw05.ParseSeqs'. -/
def parseSeqsCard : Claim7 := { stood := { row := parseSeqsRow, standIns := [], harness := (true, "8769f72f6d93eddb666e92f81d7c5014a74f8928fd3d139485e8c0f199f7f971"), looks := true }, kinds := [], alts := [], laidByText := true, laidKinds := [.data, .data, .data, .handle, .sentinel, .sentinel, .widerDeep, .widerDeep, .data, .widerDeep, .sentinel], laidTests := true, laidLooks := .later }
def ParseSeqsCardSaid : Prop := Claim7.holds Tryz.pinned (.plain (OpenSpec.ofChange parseSeqsSpec)) parseSeqsCard

/-- THE TIED CARD OF 'chancellaw05.ParseApps'. -/
def parseAppsCard : Claim7 := { stood := { row := parseAppsRow, standIns := [], harness := (true, "8769f72f6d93eddb666e92f81d7c5014a74f8928fd3d139485e8c0f199f7f971"), looks := true }, kinds := [], alts := [], laidByText := true, laidKinds := [.data, .data, .data, .handle, .sentinel, .sentinel, .widerDeep, .widerDeep, .data, .widerDeep, .sentinel], laidTests := true, laidLooks := .later }
def ParseAppsCardSaid : Prop := Claim7.holds Tryz.pinned (.plain (OpenSpec.ofChange parseAppsSpec)) parseAppsCard

/-- THE TIED CARD OF 'chancellaw05.ParseBack'. -/
def parseBackCard : Claim7 := { stood := { row := parseBackRow, standIns := [], harness := (true, "8769f72f6d93eddb666e92f81d7c5014a74f8928fd3d139485e8c0f199f7f971"), looks := true }, kinds := [], alts := [], laidByText := true, laidKinds := [.data, .data, .data, .handle, .sentinel, .sentinel, .widerDeep, .widerDeep, .data, .widerDeep, .sentinel], laidTests := true, laidLooks := .later }
def ParseBackCardSaid : Prop := Claim7.holds Tryz.pinned (.plain (OpenSpec.ofChange parseBackSpec)) parseBackCard

/-- THE TIED CARD OF 'chancellaw06.ProgTells'. -/
def progTellsCard : Claim7 := { stood := { row := progTellsRow, standIns := [], harness := (true, "8769f72f6d93eddb666e92f81d7c5014a74f8928fd3d139485e8c0f199f7f971"), looks := true }, kinds := [], alts := [], laidByText := true, laidKinds := [.data, .data, .data, .handle, .sentinel, .sentinel, .widerDeep, .widerDeep, .data, .widerDeep, .sentinel], laidTests := true, laidLooks := .later }
def ProgTellsCardSaid : Prop := Claim7.holds Tryz.pinned (.plain (OpenSpec.ofChange progTellsSpec)) progTellsCard

/-- THE TIED CARD OF 'chancellaw06.ProgBack'. -/
def progBackCard : Claim7 := { stood := { row := progBackRow, standIns := [], harness := (true, "8769f72f6d93eddb666e92f81d7c5014a74f8928fd3d139485e8c0f199f7f971"), looks := true }, kinds := [], alts := [], laidByText := true, laidKinds := [.data, .data, .data, .handle, .sentinel, .sentinel, .widerDeep, .widerDeep, .data, .widerDeep, .sentinel], laidTests := true, laidLooks := .later }
def ProgBackCardSaid : Prop := Claim7.holds Tryz.pinned (.plain (OpenSpec.ofChange progBackSpec)) progBackCard

/-- THE TIED CARD OF 'chancellaw06.ProgRight'. -/
def progRightCard : Claim7 := { stood := { row := progRightRow, standIns := [], harness := (true, "8769f72f6d93eddb666e92f81d7c5014a74f8928fd3d139485e8c0f199f7f971"), looks := true }, kinds := [], alts := [], laidByText := true, laidKinds := [.data, .data, .data, .handle, .sentinel, .sentinel, .widerDeep, .widerDeep, .data, .widerDeep, .sentinel], laidTests := true, laidLooks := .later }
def ProgRightCardSaid : Prop := Claim7.holds Tryz.pinned (.plain (OpenSpec.ofChange progRightSpec)) progRightCard

/-- THE TIED CARD OF 'chancellaw06.ProgSame'. -/
def progSameCard : Claim7 := { stood := { row := progSameRow, standIns := [], harness := (true, "8769f72f6d93eddb666e92f81d7c5014a74f8928fd3d139485e8c0f199f7f971"), looks := true }, kinds := [], alts := [], laidByText := true, laidKinds := [.data, .data, .data, .handle, .sentinel, .sentinel, .widerDeep, .widerDeep, .data, .widerDeep, .sentinel], laidTests := true, laidLooks := .later }
def ProgSameCardSaid : Prop := Claim7.holds Tryz.pinned (.plain (OpenSpec.ofChange progSameSpec)) progSameCard

/-- THE TIED CARD OF 'chancellaw06.ProgMany'. -/
def progManyCard : Claim7 := { stood := { row := progManyRow, standIns := [], harness := (true, "8769f72f6d93eddb666e92f81d7c5014a74f8928fd3d139485e8c0f199f7f971"), looks := true }, kinds := [], alts := [], laidByText := true, laidKinds := [.data, .data, .data, .handle, .sentinel, .sentinel, .widerDeep, .widerDeep, .data, .widerDeep, .sentinel], laidTests := true, laidLooks := .later }
def ProgManyCardSaid : Prop := Claim7.holds Tryz.pinned (.plain (OpenSpec.ofChange progManySpec)) progManyCard

/-- THE TIED CARD OF 'chancellaw06.ProgDecls'. -/
def progDeclsCard : Claim7 := { stood := { row := progDeclsRow, standIns := [], harness := (true, "8769f72f6d93eddb666e92f81d7c5014a74f8928fd3d139485e8c0f199f7f971"), looks := true }, kinds := [], alts := [], laidByText := true, laidKinds := [.data, .data, .data, .handle, .sentinel, .sentinel, .widerDeep, .widerDeep, .data, .widerDeep, .sentinel], laidTests := true, laidLooks := .later }
def ProgDeclsCardSaid : Prop := Claim7.holds Tryz.pinned (.plain (OpenSpec.ofChange progDeclsSpec)) progDeclsCard

/-- THE TIED CARD OF 'chancellaw06.ProgBody'. -/
def progBodyCard : Claim7 := { stood := { row := progBodyRow, standIns := [], harness := (true, "8769f72f6d93eddb666e92f81d7c5014a74f8928fd3d139485e8c0f199f7f971"), looks := true }, kinds := [], alts := [], laidByText := true, laidKinds := [.data, .data, .data, .handle, .sentinel, .sentinel, .widerDeep, .widerDeep, .data, .widerDeep, .sentinel], laidTests := true, laidLooks := .later }
def ProgBodyCardSaid : Prop := Claim7.holds Tryz.pinned (.plain (OpenSpec.ofChange progBodySpec)) progBodyCard

/-- THE SECOND FORM's CARD OF 'chancellaw05.ParseTells'. -/
def parseTellsUptoCard : Claim7 := { stood := { row := parseTellsUptoRow, standIns := [], harness := (true, "8769f72f6d93eddb666e92f81d7c5014a74f8928fd3d139485e8c0f199f7f971"), looks := true }, kinds := [], alts := [], laidByText := true, laidKinds := [.data, .data, .data, .handle, .sentinel, .sentinel, .widerDeep, .widerDeep, .sentinel], laidTests := true, laidLooks := .later }
def ParseTellsUptoCardSaid : Prop := Claim7.holds Tryz.pinned (.plain (OpenSpec.upto parseTellsSpec)) parseTellsUptoCard

/-- THE SECOND FORM's CARD OF 'chancellaw05.ParseDeep'. -/
def parseDeepUptoCard : Claim7 := { stood := { row := parseDeepUptoRow, standIns := [], harness := (true, "8769f72f6d93eddb666e92f81d7c5014a74f8928fd3d139485e8c0f199f7f971"), looks := true }, kinds := [], alts := [], laidByText := true, laidKinds := [.data, .data, .data, .handle, .sentinel, .sentinel, .widerDeep, .widerDeep, .sentinel], laidTests := true, laidLooks := .later }
def ParseDeepUptoCardSaid : Prop := Claim7.holds Tryz.pinned (.plain (OpenSpec.upto parseDeepSpec)) parseDeepUptoCard

/-- THE SECOND FORM's CARD OF 'chancellaw05.ParseToks'. -/
def parseToksUptoCard : Claim7 := { stood := { row := parseToksUptoRow, standIns := [], harness := (true, "8769f72f6d93eddb666e92f81d7c5014a74f8928fd3d139485e8c0f199f7f971"), looks := true }, kinds := [], alts := [], laidByText := true, laidKinds := [.data, .data, .data, .handle, .sentinel, .sentinel, .widerDeep, .widerDeep, .sentinel], laidTests := true, laidLooks := .later }
def ParseToksUptoCardSaid : Prop := Claim7.holds Tryz.pinned (.plain (OpenSpec.upto parseToksSpec)) parseToksUptoCard

/-- THE SECOND FORM's CARD OF 'chancellaw05.ParseRight'. -/
def parseRightUptoCard : Claim7 := { stood := { row := parseRightUptoRow, standIns := [], harness := (true, "8769f72f6d93eddb666e92f81d7c5014a74f8928fd3d139485e8c0f199f7f971"), looks := true }, kinds := [], alts := [], laidByText := true, laidKinds := [.data, .data, .data, .handle, .sentinel, .sentinel, .widerDeep, .widerDeep, .data, .widerDeep, .sentinel], laidTests := true, laidLooks := .later }
def ParseRightUptoCardSaid : Prop := Claim7.holds Tryz.pinned (.plain (OpenSpec.upto parseRightSpec)) parseRightUptoCard

/-- THE SECOND FORM's CARD OF 'chancellaw05.ParseParens'. -/
def parseParensUptoCard : Claim7 := { stood := { row := parseParensUptoRow, standIns := [], harness := (true, "8769f72f6d93eddb666e92f81d7c5014a74f8928fd3d139485e8c0f199f7f971"), looks := true }, kinds := [], alts := [], laidByText := true, laidKinds := [.data, .data, .data, .handle, .sentinel, .sentinel, .widerDeep, .widerDeep, .data, .widerDeep, .sentinel], laidTests := true, laidLooks := .later }
def ParseParensUptoCardSaid : Prop := Claim7.holds Tryz.pinned (.plain (OpenSpec.upto parseParensSpec)) parseParensUptoCard

/-- THE SECOND FORM's CARD OF 'chancellaw05.ParseSeqs'. -/
def parseSeqsUptoCard : Claim7 := { stood := { row := parseSeqsUptoRow, standIns := [], harness := (true, "8769f72f6d93eddb666e92f81d7c5014a74f8928fd3d139485e8c0f199f7f971"), looks := true }, kinds := [], alts := [], laidByText := true, laidKinds := [.data, .data, .data, .handle, .sentinel, .sentinel, .widerDeep, .widerDeep, .data, .widerDeep, .sentinel], laidTests := true, laidLooks := .later }
def ParseSeqsUptoCardSaid : Prop := Claim7.holds Tryz.pinned (.plain (OpenSpec.upto parseSeqsSpec)) parseSeqsUptoCard

/-- THE SECOND FORM's CARD OF 'chancellaw05.ParseApps'. -/
def parseAppsUptoCard : Claim7 := { stood := { row := parseAppsUptoRow, standIns := [], harness := (true, "8769f72f6d93eddb666e92f81d7c5014a74f8928fd3d139485e8c0f199f7f971"), looks := true }, kinds := [], alts := [], laidByText := true, laidKinds := [.data, .data, .data, .handle, .sentinel, .sentinel, .widerDeep, .widerDeep, .data, .widerDeep, .sentinel], laidTests := true, laidLooks := .later }
def ParseAppsUptoCardSaid : Prop := Claim7.holds Tryz.pinned (.plain (OpenSpec.upto parseAppsSpec)) parseAppsUptoCard

/-- THE SECOND FORM's CARD OF 'chancellaw05.ParseBack'. -/
def parseBackUptoCard : Claim7 := { stood := { row := parseBackUptoRow, standIns := [], harness := (true, "8769f72f6d93eddb666e92f81d7c5014a74f8928fd3d139485e8c0f199f7f971"), looks := true }, kinds := [], alts := [], laidByText := true, laidKinds := [.data, .data, .data, .handle, .sentinel, .sentinel, .widerDeep, .widerDeep, .data, .widerDeep, .sentinel], laidTests := true, laidLooks := .later }
def ParseBackUptoCardSaid : Prop := Claim7.holds Tryz.pinned (.plain (OpenSpec.upto parseBackSpec)) parseBackUptoCard

/-- THE SECOND FORM's CARD OF 'chancellaw06.ProgTells'. -/
def progTellsUptoCard : Claim7 := { stood := { row := progTellsUptoRow, standIns := [], harness := (true, "8769f72f6d93eddb666e92f81d7c5014a74f8928fd3d139485e8c0f199f7f971"), looks := true }, kinds := [], alts := [], laidByText := true, laidKinds := [.data, .data, .data, .handle, .sentinel, .sentinel, .widerDeep, .widerDeep, .data, .widerDeep, .sentinel], laidTests := true, laidLooks := .later }
def ProgTellsUptoCardSaid : Prop := Claim7.holds Tryz.pinned (.plain (OpenSpec.upto progTellsSpec)) progTellsUptoCard

/-- THE SECOND FORM's CARD OF 'chancellaw06.ProgBack'. -/
def progBackUptoCard : Claim7 := { stood := { row := progBackUptoRow, standIns := [], harness := (true, "8769f72f6d93eddb666e92f81d7c5014a74f8928fd3d139485e8c0f199f7f971"), looks := true }, kinds := [], alts := [], laidByText := true, laidKinds := [.data, .data, .data, .handle, .sentinel, .sentinel, .widerDeep, .widerDeep, .data, .widerDeep, .sentinel], laidTests := true, laidLooks := .later }
def ProgBackUptoCardSaid : Prop := Claim7.holds Tryz.pinned (.plain (OpenSpec.upto progBackSpec)) progBackUptoCard

/-- THE SECOND FORM's CARD OF 'chancellaw06.ProgRight'. -/
def progRightUptoCard : Claim7 := { stood := { row := progRightUptoRow, standIns := [], harness := (true, "8769f72f6d93eddb666e92f81d7c5014a74f8928fd3d139485e8c0f199f7f971"), looks := true }, kinds := [], alts := [], laidByText := true, laidKinds := [.data, .data, .data, .handle, .sentinel, .sentinel, .widerDeep, .widerDeep, .data, .widerDeep, .sentinel], laidTests := true, laidLooks := .later }
def ProgRightUptoCardSaid : Prop := Claim7.holds Tryz.pinned (.plain (OpenSpec.upto progRightSpec)) progRightUptoCard

/-- THE SECOND FORM's CARD OF 'chancellaw06.ProgSame'. -/
def progSameUptoCard : Claim7 := { stood := { row := progSameUptoRow, standIns := [], harness := (true, "8769f72f6d93eddb666e92f81d7c5014a74f8928fd3d139485e8c0f199f7f971"), looks := true }, kinds := [], alts := [], laidByText := true, laidKinds := [.data, .data, .data, .handle, .sentinel, .sentinel, .widerDeep, .widerDeep, .data, .widerDeep, .sentinel], laidTests := true, laidLooks := .later }
def ProgSameUptoCardSaid : Prop := Claim7.holds Tryz.pinned (.plain (OpenSpec.upto progSameSpec)) progSameUptoCard

/-- THE SECOND FORM's CARD OF 'chancellaw06.ProgMany'. -/
def progManyUptoCard : Claim7 := { stood := { row := progManyUptoRow, standIns := [], harness := (true, "8769f72f6d93eddb666e92f81d7c5014a74f8928fd3d139485e8c0f199f7f971"), looks := true }, kinds := [], alts := [], laidByText := true, laidKinds := [.data, .data, .data, .handle, .sentinel, .sentinel, .widerDeep, .widerDeep, .data, .widerDeep, .sentinel], laidTests := true, laidLooks := .later }
def ProgManyUptoCardSaid : Prop := Claim7.holds Tryz.pinned (.plain (OpenSpec.upto progManySpec)) progManyUptoCard

/-- THE SECOND FORM's CARD OF 'chancellaw06.ProgDecls'. -/
def progDeclsUptoCard : Claim7 := { stood := { row := progDeclsUptoRow, standIns := [], harness := (true, "8769f72f6d93eddb666e92f81d7c5014a74f8928fd3d139485e8c0f199f7f971"), looks := true }, kinds := [], alts := [], laidByText := true, laidKinds := [.data, .data, .data, .handle, .sentinel, .sentinel, .widerDeep, .widerDeep, .data, .widerDeep, .sentinel], laidTests := true, laidLooks := .later }
def ProgDeclsUptoCardSaid : Prop := Claim7.holds Tryz.pinned (.plain (OpenSpec.upto progDeclsSpec)) progDeclsUptoCard

/-- THE SECOND FORM's CARD OF 'chancellaw06.ProgBody'. -/
def progBodyUptoCard : Claim7 := { stood := { row := progBodyUptoRow, standIns := [], harness := (true, "8769f72f6d93eddb666e92f81d7c5014a74f8928fd3d139485e8c0f199f7f971"), looks := true }, kinds := [], alts := [], laidByText := true, laidKinds := [.data, .data, .data, .handle, .sentinel, .sentinel, .widerDeep, .widerDeep, .data, .widerDeep, .sentinel], laidTests := true, laidLooks := .later }
def ProgBodyUptoCardSaid : Prop := Claim7.holds Tryz.pinned (.plain (OpenSpec.upto progBodySpec)) progBodyUptoCard
end Rows
end Go.Proofs.YtchekgnacodolaaGreatDoor
