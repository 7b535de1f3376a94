/-
  DERIVED. GIVEN WITH THE SEED: THE CARDS: each row of YthfkednlgehchaaGreatDoorRows.lean that lists a variable, with what it lists TIED to the program's text (the seventh form; the later family's looks); each row that meets fmt, with fmt's text TOLD by the authors' own Lean function (tested against real Go, not proved from fmt's source: count such statements apart). THE CARD IS WHAT COUNTS. Prove the row's statement (the work); the ties are given (YthfkednlgehchaaGreatDoorTie.lean); close each card by the builder's one call (the guide's Derived/Test/ToyasCard.lean, 'card_holds'). Laid BY PROGRAM, IN A SANDBOX (cutbox-door.mjs). By AI agents, Wed Nov 11 2026. No macro, syntax, notation, axiom, sorry.
-/
import Derived.Test.YthfkednlgehchaaGreatDoorRows
import GoSem.ClaimSeven
namespace Go.Proofs.YthfkednlgehchaaGreatDoor
namespace Rows

/-- THE TIED CARD OF 'weirlaw23.CellNames'. -/
def cellNamesCard : Claim7 := { stood := { row := cellNamesRow, standIns := [], harness := (true, "54e952f4700c328319294796890b06166ffaf6e90f3e82d7527b5ee22e4a1733"), looks := true }, kinds := [], alts := [], laidByText := true, laidKinds := [.data, .data, .data, .data, .handle, .sentinel, .sentinel, .data, .pinned], laidTests := true, laidLooks := .later }
def CellNamesCardSaid : Prop := Claim7.holds Tryz.pinned (.plain (OpenSpec.ofChange cellNamesSpec)) cellNamesCard

/-- THE SECOND FORM's CARD OF 'weirlaw23.CellNames'. -/
def cellNamesUptoCard : Claim7 := { stood := { row := cellNamesUptoRow, standIns := [], harness := (true, "54e952f4700c328319294796890b06166ffaf6e90f3e82d7527b5ee22e4a1733"), looks := true }, kinds := [], alts := [], laidByText := true, laidKinds := [.data, .data, .data, .data, .handle, .sentinel, .sentinel, .data, .pinned], laidTests := true, laidLooks := .later }
def CellNamesUptoCardSaid : Prop := Claim7.holds Tryz.pinned (.plain (OpenSpec.upto cellNamesSpec)) cellNamesUptoCard
end Rows
end Go.Proofs.YthfkednlgehchaaGreatDoor
