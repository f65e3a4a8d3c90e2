/-
  DERIVED. GIVEN WITH THE SEED: THE CARDS: each row of YtgabmmdllcbkoaaGreatDoorRows.lean that lists a variable, with what it lists TIED to the program's text (the seventh form; the later family's looks); each row that meets fmt, with fmt's text TOLD by the authors' own Lean function (tested against real Go, not proved from fmt's source: count such statements apart). THE CARD IS WHAT COUNTS. Prove the row's statement (the work); the ties are given (YtgabmmdllcbkoaaGreatDoorTie.lean); close each card by the builder's one call (the guide's Derived/Test/ToyasCard.lean, 'card_holds'). Laid BY PROGRAM, IN A SANDBOX (cutbox-door.mjs). By AI agents, Wed Nov 11 2026. No macro, syntax, notation, axiom, sorry.
-/
import Derived.Test.YtgabmmdllcbkoaaGreatDoorRows
import GoSem.ClaimSeven
namespace Go.Proofs.YtgabmmdllcbkoaaGreatDoor
namespace Rows

/-- THE TIED CARD OF 'theorbolaw06.HandTexts'. -/
def handTextsCard : Claim7 := { stood := { row := handTextsRow, standIns := [], harness := (true, "c73831ab61c77408653cd8fdf9781edf4df54503e63d7b87f161f66cbd20dd3a"), looks := true }, kinds := [], alts := [], laidByText := true, laidKinds := [.data, .data, .data, .data, .sentinel, .sentinel, .pinned], laidTests := true, laidLooks := .later }
def HandTextsCardSaid : Prop := Claim7.holds Tryz.pinned (.plain (OpenSpec.ofChange handTextsSpec)) handTextsCard

/-- THE SECOND FORM's CARD OF 'theorbolaw06.HandTexts'. -/
def handTextsUptoCard : Claim7 := { stood := { row := handTextsUptoRow, standIns := [], harness := (true, "c73831ab61c77408653cd8fdf9781edf4df54503e63d7b87f161f66cbd20dd3a"), looks := true }, kinds := [], alts := [], laidByText := true, laidKinds := [.data, .data, .data, .data, .sentinel, .sentinel, .pinned], laidTests := true, laidLooks := .later }
def HandTextsUptoCardSaid : Prop := Claim7.holds Tryz.pinned (.plain (OpenSpec.upto handTextsSpec)) handTextsUptoCard
end Rows
end Go.Proofs.YtgabmmdllcbkoaaGreatDoor
