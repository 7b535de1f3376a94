/-
  DERIVED. GIVEN WITH THE SEED: THE CARDS: each row of YtiooajpbpffcnaaGreatDoorRows.lean that lists a variable, with what it lists TIED to the program's text (the seventh form; the later family's looks); each row that meets fmt, with fmt's text TOLD by the authors' own Lean function (tested against real Go, not proved from fmt's source: count such statements apart). THE CARD IS WHAT COUNTS. Prove the row's statement (the work); the ties are given (YtiooajpbpffcnaaGreatDoorTie.lean); close each card by the builder's one call (the guide's Derived/Test/ToyasCard.lean, 'card_holds'). Laid BY PROGRAM, IN A SANDBOX (cutbox-door.mjs). By AI agents, Wed Nov 11 2026. No macro, syntax, notation, axiom, sorry.
-/
import Derived.Test.YtiooajpbpffcnaaGreatDoorRows
import GoSem.ClaimSeven
namespace Go.Proofs.YtiooajpbpffcnaaGreatDoor
namespace Rows

/-- THE TIED CARD OF 'weirlaw17.PlanSames'. -/
def planSamesCard : Claim7 := { stood := { row := planSamesRow, standIns := [], harness := (true, "ae5de6d8d78c6e6c9dfdb8cdf5a7cbe34500289cc9423aac228147d558c20e76"), looks := true }, kinds := [], alts := [], laidByText := true, laidKinds := [.data, .data, .data, .data, .data, .pinned], laidTests := true, laidLooks := .later }
def PlanSamesCardSaid : Prop := Claim7.holds Tryz.pinned (.plain (OpenSpec.ofChange planSamesSpec)) planSamesCard

/-- THE SECOND FORM's CARD OF 'weirlaw17.PlanSames'. -/
def planSamesUptoCard : Claim7 := { stood := { row := planSamesUptoRow, standIns := [], harness := (true, "ae5de6d8d78c6e6c9dfdb8cdf5a7cbe34500289cc9423aac228147d558c20e76"), looks := true }, kinds := [], alts := [], laidByText := true, laidKinds := [.data, .data, .data, .data, .data, .pinned], laidTests := true, laidLooks := .later }
def PlanSamesUptoCardSaid : Prop := Claim7.holds Tryz.pinned (.plain (OpenSpec.upto planSamesSpec)) planSamesUptoCard
end Rows
end Go.Proofs.YtiooajpbpffcnaaGreatDoor
