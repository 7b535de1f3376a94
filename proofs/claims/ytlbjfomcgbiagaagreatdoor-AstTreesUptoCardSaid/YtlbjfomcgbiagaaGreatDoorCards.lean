/-
  DERIVED. GIVEN WITH THE SEED: THE CARDS: each row of YtlbjfomcgbiagaaGreatDoorRows.lean that lists a variable, with what it lists TIED to the program's text (the seventh form; the later family's looks); each row that meets fmt, with fmt's text TOLD by the authors' own Lean function (tested against real Go, not proved from fmt's source: count such statements apart). THE CARD IS WHAT COUNTS. Prove the row's statement (the work); the ties are given (YtlbjfomcgbiagaaGreatDoorTie.lean); close each card by the builder's one call (the guide's Derived/Test/ToyasCard.lean, 'card_holds'). Laid BY PROGRAM, IN A SANDBOX (cutbox-door.mjs). By AI agents, Wed Nov 11 2026. No macro, syntax, notation, axiom, sorry.
-/
import Derived.Test.YtlbjfomcgbiagaaGreatDoorRows
import GoSem.ClaimSeven
namespace Go.Proofs.YtlbjfomcgbiagaaGreatDoor
namespace Rows

/-- THE TIED CARD OF 'weirlaw13.AstTrees'. -/
def astTreesCard : Claim7 := { stood := { row := astTreesRow, standIns := [], harness := (true, "b9fcec2dae8f6fdd53264084f950e9b7ddbef5c02bc3cb4b4fe9a29d78da15c3"), looks := true }, kinds := [], alts := [], laidByText := true, laidKinds := [.data, .data, .data, .data, .handle, .pinned], laidTests := true, laidLooks := .later }
def AstTreesCardSaid : Prop := Claim7.holds Tryz.pinned (.plain (OpenSpec.ofChange astTreesSpec)) astTreesCard

/-- THE TIED CARD OF 'weirlaw13.AstQueries'. -/
def astQueriesCard : Claim7 := { stood := { row := astQueriesRow, standIns := [], harness := (true, "b9fcec2dae8f6fdd53264084f950e9b7ddbef5c02bc3cb4b4fe9a29d78da15c3"), looks := true }, kinds := [], alts := [], laidByText := true, laidKinds := [.data, .data, .data, .data, .handle, .data, .pinned], laidTests := true, laidLooks := .later }
def AstQueriesCardSaid : Prop := Claim7.holds Tryz.pinned (.plain (OpenSpec.ofChange astQueriesSpec)) astQueriesCard

/-- THE TIED CARD OF 'weirlaw13.AstUnlike'. -/
def astUnlikeCard : Claim7 := { stood := { row := astUnlikeRow, standIns := [], harness := (true, "b9fcec2dae8f6fdd53264084f950e9b7ddbef5c02bc3cb4b4fe9a29d78da15c3"), looks := true }, kinds := [], alts := [], laidByText := true, laidKinds := [.data, .data, .data, .data, .handle, .data, .pinned], laidTests := true, laidLooks := .later }
def AstUnlikeCardSaid : Prop := Claim7.holds Tryz.pinned (.plain (OpenSpec.ofChange astUnlikeSpec)) astUnlikeCard

/-- THE TIED CARD OF 'weirlaw13.AstBlanks'. -/
def astBlanksCard : Claim7 := { stood := { row := astBlanksRow, standIns := [], harness := (true, "b9fcec2dae8f6fdd53264084f950e9b7ddbef5c02bc3cb4b4fe9a29d78da15c3"), looks := true }, kinds := [], alts := [], laidByText := true, laidKinds := [.data, .data, .data, .data, .handle, .data, .pinned], laidTests := true, laidLooks := .later }
def AstBlanksCardSaid : Prop := Claim7.holds Tryz.pinned (.plain (OpenSpec.ofChange astBlanksSpec)) astBlanksCard

/-- THE SECOND FORM's CARD OF 'weirlaw13.AstTrees'. -/
def astTreesUptoCard : Claim7 := { stood := { row := astTreesUptoRow, standIns := [], harness := (true, "b9fcec2dae8f6fdd53264084f950e9b7ddbef5c02bc3cb4b4fe9a29d78da15c3"), looks := true }, kinds := [], alts := [], laidByText := true, laidKinds := [.data, .data, .data, .data, .handle, .pinned], laidTests := true, laidLooks := .later }
def AstTreesUptoCardSaid : Prop := Claim7.holds Tryz.pinned (.plain (OpenSpec.upto astTreesSpec)) astTreesUptoCard

/-- THE SECOND FORM's CARD OF 'weirlaw13.AstQueries'. -/
def astQueriesUptoCard : Claim7 := { stood := { row := astQueriesUptoRow, standIns := [], harness := (true, "b9fcec2dae8f6fdd53264084f950e9b7ddbef5c02bc3cb4b4fe9a29d78da15c3"), looks := true }, kinds := [], alts := [], laidByText := true, laidKinds := [.data, .data, .data, .data, .handle, .data, .pinned], laidTests := true, laidLooks := .later }
def AstQueriesUptoCardSaid : Prop := Claim7.holds Tryz.pinned (.plain (OpenSpec.upto astQueriesSpec)) astQueriesUptoCard

/-- THE SECOND FORM's CARD OF 'weirlaw13.AstUnlike'. -/
def astUnlikeUptoCard : Claim7 := { stood := { row := astUnlikeUptoRow, standIns := [], harness := (true, "b9fcec2dae8f6fdd53264084f950e9b7ddbef5c02bc3cb4b4fe9a29d78da15c3"), looks := true }, kinds := [], alts := [], laidByText := true, laidKinds := [.data, .data, .data, .data, .handle, .data, .pinned], laidTests := true, laidLooks := .later }
def AstUnlikeUptoCardSaid : Prop := Claim7.holds Tryz.pinned (.plain (OpenSpec.upto astUnlikeSpec)) astUnlikeUptoCard

/-- THE SECOND FORM's CARD OF 'weirlaw13.AstBlanks'. -/
def astBlanksUptoCard : Claim7 := { stood := { row := astBlanksUptoRow, standIns := [], harness := (true, "b9fcec2dae8f6fdd53264084f950e9b7ddbef5c02bc3cb4b4fe9a29d78da15c3"), looks := true }, kinds := [], alts := [], laidByText := true, laidKinds := [.data, .data, .data, .data, .handle, .data, .pinned], laidTests := true, laidLooks := .later }
def AstBlanksUptoCardSaid : Prop := Claim7.holds Tryz.pinned (.plain (OpenSpec.upto astBlanksSpec)) astBlanksUptoCard
end Rows
end Go.Proofs.YtlbjfomcgbiagaaGreatDoor
