/-
  DERIVED. GIVEN WITH THE SEED: THE CARDS: each row of YtoglcipagladmaaGreatDoorRows.lean that lists a variable, with what it lists TIED to the program's text (the seventh form; the later family's looks); each row that meets fmt, with fmt's text TOLD by the authors' own Lean function (tested against real Go, not proved from fmt's source: count such statements apart). THE CARD IS WHAT COUNTS. Prove the row's statement (the work); the ties are given (YtoglcipagladmaaGreatDoorTie.lean); close each card by the builder's one call (the guide's Derived/Test/ToyasCard.lean, 'card_holds'). Laid BY PROGRAM, IN A SANDBOX (cutbox-door.mjs). By AI agents, Wed Nov 11 2026. No macro, syntax, notation, axiom, sorry.
-/
import Derived.Test.YtoglcipagladmaaGreatDoorRows
import GoSem.ClaimSeven
namespace Go.Proofs.YtoglcipagladmaaGreatDoor
namespace Rows

/-- THE TIED CARD OF 'weirlaw13.AstCopies'. -/
def astCopiesCard : Claim7 := { stood := { row := astCopiesRow, standIns := [], harness := (true, "659ce094a2a6158617fdeaedb67ced346301e4286e0b0ad9c981cdc6f3d65b8f"), looks := true }, kinds := [], alts := [], laidByText := true, laidKinds := [.data, .data, .data, .data, .handle, .pinned], laidTests := true, laidLooks := .later }
def AstCopiesCardSaid : Prop := Claim7.holds Tryz.pinned (.plain (OpenSpec.ofChange astCopiesSpec)) astCopiesCard

/-- THE SECOND FORM's CARD OF 'weirlaw13.AstCopies'. -/
def astCopiesUptoCard : Claim7 := { stood := { row := astCopiesUptoRow, standIns := [], harness := (true, "659ce094a2a6158617fdeaedb67ced346301e4286e0b0ad9c981cdc6f3d65b8f"), looks := true }, kinds := [], alts := [], laidByText := true, laidKinds := [.data, .data, .data, .data, .handle, .pinned], laidTests := true, laidLooks := .later }
def AstCopiesUptoCardSaid : Prop := Claim7.holds Tryz.pinned (.plain (OpenSpec.upto astCopiesSpec)) astCopiesUptoCard
end Rows
end Go.Proofs.YtoglcipagladmaaGreatDoor
