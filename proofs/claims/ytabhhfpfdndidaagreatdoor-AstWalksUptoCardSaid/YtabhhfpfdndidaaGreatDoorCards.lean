/-
  DERIVED. GIVEN WITH THE SEED: THE CARDS: each row of YtabhhfpfdndidaaGreatDoorRows.lean that lists a variable, with what it lists TIED to the program's text (the seventh form; the later family's looks); each row that meets fmt, with fmt's text TOLD by the authors' own Lean function (tested against real Go, not proved from fmt's source: count such statements apart). THE CARD IS WHAT COUNTS. Prove the row's statement (the work); the ties are given (YtabhhfpfdndidaaGreatDoorTie.lean); close each card by the builder's one call (the guide's Derived/Test/ToyasCard.lean, 'card_holds'). Laid BY PROGRAM, IN A SANDBOX (cutbox-door.mjs). By AI agents, Wed Nov 11 2026. No macro, syntax, notation, axiom, sorry.
-/
import Derived.Test.YtabhhfpfdndidaaGreatDoorRows
import GoSem.ClaimSeven
namespace Go.Proofs.YtabhhfpfdndidaaGreatDoor
namespace Rows

/-- THE TIED CARD OF 'weirlaw13.AstWalks'. -/
def astWalksCard : Claim7 := { stood := { row := astWalksRow, standIns := [], harness := (true, "f373b0ded2af7c6573feebc76cde0baa3cb629d436b2ea1056e4c0bfcf9d3dca"), looks := true }, kinds := [], alts := [], laidByText := true, laidKinds := [.data, .data, .data, .data, .handle, .pinned], laidTests := true, laidLooks := .later }
def AstWalksCardSaid : Prop := Claim7.holds Tryz.pinned (.plain (OpenSpec.ofChange astWalksSpec)) astWalksCard

/-- THE TIED CARD OF 'weirlaw13.AstEnds'. -/
def astEndsCard : Claim7 := { stood := { row := astEndsRow, standIns := [], harness := (true, "f373b0ded2af7c6573feebc76cde0baa3cb629d436b2ea1056e4c0bfcf9d3dca"), looks := true }, kinds := [], alts := [], laidByText := true, laidKinds := [.data, .data, .data, .data, .handle, .pinned], laidTests := true, laidLooks := .later }
def AstEndsCardSaid : Prop := Claim7.holds Tryz.pinned (.plain (OpenSpec.ofChange astEndsSpec)) astEndsCard

/-- THE TIED CARD OF 'weirlaw13.AstSames'. -/
def astSamesCard : Claim7 := { stood := { row := astSamesRow, standIns := [], harness := (true, "f373b0ded2af7c6573feebc76cde0baa3cb629d436b2ea1056e4c0bfcf9d3dca"), looks := true }, kinds := [], alts := [], laidByText := true, laidKinds := [.data, .data, .data, .data, .handle, .pinned], laidTests := true, laidLooks := .later }
def AstSamesCardSaid : Prop := Claim7.holds Tryz.pinned (.plain (OpenSpec.ofChange astSamesSpec)) astSamesCard

/-- THE TIED CARD OF 'weirlaw13.AstAlike'. -/
def astAlikeCard : Claim7 := { stood := { row := astAlikeRow, standIns := [], harness := (true, "f373b0ded2af7c6573feebc76cde0baa3cb629d436b2ea1056e4c0bfcf9d3dca"), looks := true }, kinds := [], alts := [], laidByText := true, laidKinds := [.data, .data, .data, .data, .handle, .pinned], laidTests := true, laidLooks := .later }
def AstAlikeCardSaid : Prop := Claim7.holds Tryz.pinned (.plain (OpenSpec.ofChange astAlikeSpec)) astAlikeCard

/-- THE TIED CARD OF 'weirlaw13.AstOwn'. -/
def astOwnCard : Claim7 := { stood := { row := astOwnRow, standIns := [], harness := (true, "f373b0ded2af7c6573feebc76cde0baa3cb629d436b2ea1056e4c0bfcf9d3dca"), looks := true }, kinds := [], alts := [], laidByText := true, laidKinds := [.data, .data, .data, .data, .handle, .pinned], laidTests := true, laidLooks := .later }
def AstOwnCardSaid : Prop := Claim7.holds Tryz.pinned (.plain (OpenSpec.ofChange astOwnSpec)) astOwnCard

/-- THE TIED CARD OF 'weirlaw13.AstCopies'. -/
def astCopiesCard : Claim7 := { stood := { row := astCopiesRow, standIns := [], harness := (true, "f373b0ded2af7c6573feebc76cde0baa3cb629d436b2ea1056e4c0bfcf9d3dca"), looks := true }, kinds := [], alts := [], laidByText := true, laidKinds := [.data, .data, .data, .data, .handle, .pinned], laidTests := true, laidLooks := .later }
def AstCopiesCardSaid : Prop := Claim7.holds Tryz.pinned (.plain (OpenSpec.ofChange astCopiesSpec)) astCopiesCard

/-- THE TIED CARD OF 'weirlaw13.AstTrees'. -/
def astTreesCard : Claim7 := { stood := { row := astTreesRow, standIns := [], harness := (true, "f373b0ded2af7c6573feebc76cde0baa3cb629d436b2ea1056e4c0bfcf9d3dca"), looks := true }, kinds := [], alts := [], laidByText := true, laidKinds := [.data, .data, .data, .data, .handle, .pinned], laidTests := true, laidLooks := .later }
def AstTreesCardSaid : Prop := Claim7.holds Tryz.pinned (.plain (OpenSpec.ofChange astTreesSpec)) astTreesCard

/-- THE TIED CARD OF 'weirlaw13.AstQueries'. -/
def astQueriesCard : Claim7 := { stood := { row := astQueriesRow, standIns := [], harness := (true, "f373b0ded2af7c6573feebc76cde0baa3cb629d436b2ea1056e4c0bfcf9d3dca"), looks := true }, kinds := [], alts := [], laidByText := true, laidKinds := [.data, .data, .data, .data, .handle, .data, .pinned], laidTests := true, laidLooks := .later }
def AstQueriesCardSaid : Prop := Claim7.holds Tryz.pinned (.plain (OpenSpec.ofChange astQueriesSpec)) astQueriesCard

/-- THE TIED CARD OF 'weirlaw13.AstUnlike'. -/
def astUnlikeCard : Claim7 := { stood := { row := astUnlikeRow, standIns := [], harness := (true, "f373b0ded2af7c6573feebc76cde0baa3cb629d436b2ea1056e4c0bfcf9d3dca"), looks := true }, kinds := [], alts := [], laidByText := true, laidKinds := [.data, .data, .data, .data, .handle, .data, .pinned], laidTests := true, laidLooks := .later }
def AstUnlikeCardSaid : Prop := Claim7.holds Tryz.pinned (.plain (OpenSpec.ofChange astUnlikeSpec)) astUnlikeCard

/-- THE TIED CARD OF 'weirlaw13.AstBlanks'. -/
def astBlanksCard : Claim7 := { stood := { row := astBlanksRow, standIns := [], harness := (true, "f373b0ded2af7c6573feebc76cde0baa3cb629d436b2ea1056e4c0bfcf9d3dca"), looks := true }, kinds := [], alts := [], laidByText := true, laidKinds := [.data, .data, .data, .data, .handle, .data, .pinned], laidTests := true, laidLooks := .later }
def AstBlanksCardSaid : Prop := Claim7.holds Tryz.pinned (.plain (OpenSpec.ofChange astBlanksSpec)) astBlanksCard

/-- THE SECOND FORM's CARD OF 'weirlaw13.AstWalks'. -/
def astWalksUptoCard : Claim7 := { stood := { row := astWalksUptoRow, standIns := [], harness := (true, "f373b0ded2af7c6573feebc76cde0baa3cb629d436b2ea1056e4c0bfcf9d3dca"), looks := true }, kinds := [], alts := [], laidByText := true, laidKinds := [.data, .data, .data, .data, .handle, .pinned], laidTests := true, laidLooks := .later }
def AstWalksUptoCardSaid : Prop := Claim7.holds Tryz.pinned (.plain (OpenSpec.upto astWalksSpec)) astWalksUptoCard

/-- THE SECOND FORM's CARD OF 'weirlaw13.AstEnds'. -/
def astEndsUptoCard : Claim7 := { stood := { row := astEndsUptoRow, standIns := [], harness := (true, "f373b0ded2af7c6573feebc76cde0baa3cb629d436b2ea1056e4c0bfcf9d3dca"), looks := true }, kinds := [], alts := [], laidByText := true, laidKinds := [.data, .data, .data, .data, .handle, .pinned], laidTests := true, laidLooks := .later }
def AstEndsUptoCardSaid : Prop := Claim7.holds Tryz.pinned (.plain (OpenSpec.upto astEndsSpec)) astEndsUptoCard

/-- THE SECOND FORM's CARD OF 'weirlaw13.AstSames'. -/
def astSamesUptoCard : Claim7 := { stood := { row := astSamesUptoRow, standIns := [], harness := (true, "f373b0ded2af7c6573feebc76cde0baa3cb629d436b2ea1056e4c0bfcf9d3dca"), looks := true }, kinds := [], alts := [], laidByText := true, laidKinds := [.data, .data, .data, .data, .handle, .pinned], laidTests := true, laidLooks := .later }
def AstSamesUptoCardSaid : Prop := Claim7.holds Tryz.pinned (.plain (OpenSpec.upto astSamesSpec)) astSamesUptoCard

/-- THE SECOND FORM's CARD OF 'weirlaw13.AstAlike'. -/
def astAlikeUptoCard : Claim7 := { stood := { row := astAlikeUptoRow, standIns := [], harness := (true, "f373b0ded2af7c6573feebc76cde0baa3cb629d436b2ea1056e4c0bfcf9d3dca"), looks := true }, kinds := [], alts := [], laidByText := true, laidKinds := [.data, .data, .data, .data, .handle, .pinned], laidTests := true, laidLooks := .later }
def AstAlikeUptoCardSaid : Prop := Claim7.holds Tryz.pinned (.plain (OpenSpec.upto astAlikeSpec)) astAlikeUptoCard

/-- THE SECOND FORM's CARD OF 'weirlaw13.AstOwn'. -/
def astOwnUptoCard : Claim7 := { stood := { row := astOwnUptoRow, standIns := [], harness := (true, "f373b0ded2af7c6573feebc76cde0baa3cb629d436b2ea1056e4c0bfcf9d3dca"), looks := true }, kinds := [], alts := [], laidByText := true, laidKinds := [.data, .data, .data, .data, .handle, .pinned], laidTests := true, laidLooks := .later }
def AstOwnUptoCardSaid : Prop := Claim7.holds Tryz.pinned (.plain (OpenSpec.upto astOwnSpec)) astOwnUptoCard

/-- THE SECOND FORM's CARD OF 'weirlaw13.AstCopies'. -/
def astCopiesUptoCard : Claim7 := { stood := { row := astCopiesUptoRow, standIns := [], harness := (true, "f373b0ded2af7c6573feebc76cde0baa3cb629d436b2ea1056e4c0bfcf9d3dca"), looks := true }, kinds := [], alts := [], laidByText := true, laidKinds := [.data, .data, .data, .data, .handle, .pinned], laidTests := true, laidLooks := .later }
def AstCopiesUptoCardSaid : Prop := Claim7.holds Tryz.pinned (.plain (OpenSpec.upto astCopiesSpec)) astCopiesUptoCard

/-- THE SECOND FORM's CARD OF 'weirlaw13.AstTrees'. -/
def astTreesUptoCard : Claim7 := { stood := { row := astTreesUptoRow, standIns := [], harness := (true, "f373b0ded2af7c6573feebc76cde0baa3cb629d436b2ea1056e4c0bfcf9d3dca"), looks := true }, kinds := [], alts := [], laidByText := true, laidKinds := [.data, .data, .data, .data, .handle, .pinned], laidTests := true, laidLooks := .later }
def AstTreesUptoCardSaid : Prop := Claim7.holds Tryz.pinned (.plain (OpenSpec.upto astTreesSpec)) astTreesUptoCard

/-- THE SECOND FORM's CARD OF 'weirlaw13.AstQueries'. -/
def astQueriesUptoCard : Claim7 := { stood := { row := astQueriesUptoRow, standIns := [], harness := (true, "f373b0ded2af7c6573feebc76cde0baa3cb629d436b2ea1056e4c0bfcf9d3dca"), looks := true }, kinds := [], alts := [], laidByText := true, laidKinds := [.data, .data, .data, .data, .handle, .data, .pinned], laidTests := true, laidLooks := .later }
def AstQueriesUptoCardSaid : Prop := Claim7.holds Tryz.pinned (.plain (OpenSpec.upto astQueriesSpec)) astQueriesUptoCard

/-- THE SECOND FORM's CARD OF 'weirlaw13.AstUnlike'. -/
def astUnlikeUptoCard : Claim7 := { stood := { row := astUnlikeUptoRow, standIns := [], harness := (true, "f373b0ded2af7c6573feebc76cde0baa3cb629d436b2ea1056e4c0bfcf9d3dca"), looks := true }, kinds := [], alts := [], laidByText := true, laidKinds := [.data, .data, .data, .data, .handle, .data, .pinned], laidTests := true, laidLooks := .later }
def AstUnlikeUptoCardSaid : Prop := Claim7.holds Tryz.pinned (.plain (OpenSpec.upto astUnlikeSpec)) astUnlikeUptoCard

/-- THE SECOND FORM's CARD OF 'weirlaw13.AstBlanks'. -/
def astBlanksUptoCard : Claim7 := { stood := { row := astBlanksUptoRow, standIns := [], harness := (true, "f373b0ded2af7c6573feebc76cde0baa3cb629d436b2ea1056e4c0bfcf9d3dca"), looks := true }, kinds := [], alts := [], laidByText := true, laidKinds := [.data, .data, .data, .data, .handle, .data, .pinned], laidTests := true, laidLooks := .later }
def AstBlanksUptoCardSaid : Prop := Claim7.holds Tryz.pinned (.plain (OpenSpec.upto astBlanksSpec)) astBlanksUptoCard
end Rows
end Go.Proofs.YtabhhfpfdndidaaGreatDoor
