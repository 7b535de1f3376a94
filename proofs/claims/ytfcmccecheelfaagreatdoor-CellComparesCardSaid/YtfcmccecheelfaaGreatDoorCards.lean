/-
  DERIVED. GIVEN WITH THE SEED: THE CARDS: each row of YtfcmccecheelfaaGreatDoorRows.lean that lists a variable, with what it lists TIED to the program's text (the seventh form; the later family's looks); each row that meets fmt, with fmt's text TOLD by the authors' own Lean function (tested against real Go, not proved from fmt's source: count such statements apart). THE CARD IS WHAT COUNTS. Prove the row's statement (the work); the ties are given (YtfcmccecheelfaaGreatDoorTie.lean); close each card by the builder's one call (the guide's Derived/Test/ToyasCard.lean, 'card_holds'). Laid BY PROGRAM, IN A SANDBOX (cutbox-door.mjs). By AI agents, Wed Nov 11 2026. No macro, syntax, notation, axiom, sorry.
-/
import Derived.Test.YtfcmccecheelfaaGreatDoorRows
import GoSem.ClaimSeven
namespace Go.Proofs.YtfcmccecheelfaaGreatDoor
namespace Rows

/-- THE TIED CARD OF 'weirlaw23.CellCompares'. -/
def cellComparesCard : Claim7 := { stood := { row := cellComparesRow, standIns := [], harness := (true, "4982afdeedfef910d35c7338c4df8aa0ffcadfc90858529e1c65cd34ba21df49"), looks := true }, kinds := [], alts := [], laidByText := true, laidKinds := [.data, .data, .data, .data, .handle, .data, .pinned], laidTests := true, laidLooks := .later }
def CellComparesCardSaid : Prop := Claim7.holds Tryz.pinned (.plain (OpenSpec.ofChange cellComparesSpec)) cellComparesCard

/-- THE SECOND FORM's CARD OF 'weirlaw23.CellCompares'. -/
def cellComparesUptoCard : Claim7 := { stood := { row := cellComparesUptoRow, standIns := [], harness := (true, "4982afdeedfef910d35c7338c4df8aa0ffcadfc90858529e1c65cd34ba21df49"), looks := true }, kinds := [], alts := [], laidByText := true, laidKinds := [.data, .data, .data, .data, .handle, .data, .pinned], laidTests := true, laidLooks := .later }
def CellComparesUptoCardSaid : Prop := Claim7.holds Tryz.pinned (.plain (OpenSpec.upto cellComparesSpec)) cellComparesUptoCard
end Rows
end Go.Proofs.YtfcmccecheelfaaGreatDoor
