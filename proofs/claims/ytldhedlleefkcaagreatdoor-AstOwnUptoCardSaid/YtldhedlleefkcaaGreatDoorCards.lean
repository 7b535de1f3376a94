/-
  DERIVED. GIVEN WITH THE SEED: THE CARDS: each row of YtldhedlleefkcaaGreatDoorRows.lean that lists a variable, with what it lists TIED to the program's text (the seventh form; the later family's looks); each row that meets fmt, with fmt's text TOLD by the authors' own Lean function (tested against real Go, not proved from fmt's source: count such statements apart). THE CARD IS WHAT COUNTS. Prove the row's statement (the work); the ties are given (YtldhedlleefkcaaGreatDoorTie.lean); close each card by the builder's one call (the guide's Derived/Test/ToyasCard.lean, 'card_holds'). Laid BY PROGRAM, IN A SANDBOX (cutbox-door.mjs). By AI agents, Wed Nov 11 2026. No macro, syntax, notation, axiom, sorry.
-/
import Derived.Test.YtldhedlleefkcaaGreatDoorRows
import GoSem.ClaimSeven
namespace Go.Proofs.YtldhedlleefkcaaGreatDoor
namespace Rows

/-- THE TIED CARD OF 'weirlaw13.AstOwn'. -/
def astOwnCard : Claim7 := { stood := { row := astOwnRow, standIns := [], harness := (true, "045d9ee88a5c958335c15b50d5b86660690d12d00626e6b5622d0b489dc4c9ce"), looks := true }, kinds := [], alts := [], laidByText := true, laidKinds := [.data, .data, .data, .data, .handle, .pinned], laidTests := true, laidLooks := .later }
def AstOwnCardSaid : Prop := Claim7.holds Tryz.pinned (.plain (OpenSpec.ofChange astOwnSpec)) astOwnCard

/-- THE SECOND FORM's CARD OF 'weirlaw13.AstOwn'. -/
def astOwnUptoCard : Claim7 := { stood := { row := astOwnUptoRow, standIns := [], harness := (true, "045d9ee88a5c958335c15b50d5b86660690d12d00626e6b5622d0b489dc4c9ce"), looks := true }, kinds := [], alts := [], laidByText := true, laidKinds := [.data, .data, .data, .data, .handle, .pinned], laidTests := true, laidLooks := .later }
def AstOwnUptoCardSaid : Prop := Claim7.holds Tryz.pinned (.plain (OpenSpec.upto astOwnSpec)) astOwnUptoCard
end Rows
end Go.Proofs.YtldhedlleefkcaaGreatDoor
