/-
  DERIVED. GIVEN WITH THE SEED: THE CARDS: each row of YtchekgnacodolaaDoorRows.lean that lists a variable, with what it lists TIED to the program's text (the seventh form; the later family's looks); each row that meets fmt, with fmt's text TOLD by the authors' own Lean function (tested against real Go, not proved from fmt's source: count such statements apart). THE CARD IS WHAT COUNTS. Prove the row's statement (the work); the ties are given (YtchekgnacodolaaDoorTie.lean); close each card by the builder's one call (the guide's Derived/Test/ToyasCard.lean, 'card_holds'). Laid BY PROGRAM, IN A SANDBOX (cutbox-door.mjs). By AI agents, Wed Nov 11 2026. No macro, syntax, notation, axiom, sorry.
-/
import Derived.Test.YtchekgnacodolaaDoorRows
import GoSem.ClaimSeven
namespace Go.Proofs.YtchekgnacodolaaDoor
namespace Rows

/-- THE TIED CARD OF 'chancellaw04.ShowLexes'. -/
def showLexesCard : Claim7 := { stood := { row := showLexesRow, standIns := [], harness := (true, "94ca94a0750a0d884030e2cba9b0bbbd5d7ef16c5d7161abf9c7aa168e6cb18b"), looks := true }, kinds := [], alts := [], laidByText := true, laidKinds := [.data, .data, .data, .sentinel, .sentinel, .widerDeep, .widerDeep, .data, .widerDeep], laidTests := true, laidLooks := .later }
def ShowLexesCardSaid : Prop := Claim7.holds Tryd.pinned (.plain (OpenSpec.ofChange showLexesSpec)) showLexesCard

/-- THE SECOND FORM's CARD OF 'chancellaw04.ShowLexes'. -/
def showLexesUptoCard : Claim7 := { stood := { row := showLexesUptoRow, standIns := [], harness := (true, "94ca94a0750a0d884030e2cba9b0bbbd5d7ef16c5d7161abf9c7aa168e6cb18b"), looks := true }, kinds := [], alts := [], laidByText := true, laidKinds := [.data, .data, .data, .sentinel, .sentinel, .widerDeep, .widerDeep, .data, .widerDeep], laidTests := true, laidLooks := .later }
def ShowLexesUptoCardSaid : Prop := Claim7.holds Tryd.pinned (.plain (OpenSpec.upto showLexesSpec)) showLexesUptoCard
end Rows
end Go.Proofs.YtchekgnacodolaaDoor
