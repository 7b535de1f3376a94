-- Made by wip/mkprint.sh of this repo over the kit's print.
import Derived.Test.YtfcmccecheelfaaGreatDoorProg
import Derived.Below
import Derived.Deep.Draws
import Derived.Deep.AppendLies
import Derived.Maps.AppendAt
import Derived.OwnWalk
import Derived.Laws.BytesArg
import Derived.Laws.MakeOwn
import Derived.Laws.OwnMore
import Derived.Deep.OwnRows
import Derived.Tactics
import Derived.Lib.ConvBytes
import Derived.Laws.Slices
import Derived.WalkKit
import Derived.KernelRfl
import Derived.RowKit3
import Derived.Deep.LoopGhost
import Derived.Deep.QuietTactic
import Derived.BigQuiet
import Derived.WideLaws
import Derived.Deep.DeepCutAuto
import Derived.Deep.CutBlock
import Derived.Deep.RegionHeld3
import Derived.Laws.Rows
import Derived.Lib.AppendStr
import Derived.ArgAppend
import Derived.Laws.IdiomCopy
import Derived.OrdersHeld
import Derived.Laws.BitsLemmas
import Derived.RowKit
import Derived.Test.YtfcmccecheelfaaGreatDoorWWords
import Derived.Test.YtfcmccecheelfaaGreatDoorWLast
import Derived.Test.YtfcmccecheelfaaGreatDoorWTab
import Derived.Test.YtfcmccecheelfaaGreatDoorWFour
import Derived.Test.YtfcmccecheelfaaGreatDoorWQPut
import Derived.Test.YtfcmccecheelfaaGreatDoorWApart
import Derived.Test.YtfcmccecheelfaaGreatDoorWArr
import Derived.Test.YtfcmccecheelfaaGreatDoorWZeros
import Derived.Test.YtfcmccecheelfaaGreatDoorWFoot
import Derived.Test.YtfcmccecheelfaaGreatDoorWKept
import Derived.Test.YtfcmccecheelfaaGreatDoorWShare
import Derived.Test.YtfcmccecheelfaaGreatDoorWN
import Derived.Test.YtfcmccecheelfaaGreatDoorWFootNe
import Derived.Test.YtfcmccecheelfaaGreatDoorWAt
import Derived.Test.YtfcmccecheelfaaGreatDoorWEqStruct
import Derived.Test.YtfcmccecheelfaaGreatDoorWRepsOne
import Derived.Test.YtfcmccecheelfaaGreatDoorWInv
import Derived.Test.YtfcmccecheelfaaGreatDoorWInvWords
import Derived.Test.YtfcmccecheelfaaGreatDoorWGuard
import Derived.Test.YtfcmccecheelfaaGreatDoorWNEv
import Derived.Test.YtfcmccecheelfaaGreatDoorWMore
import Derived.Test.YtfcmccecheelfaaGreatDoorBase0
namespace Go.Proofs.YtfcmccecheelfaaGreatDoor.Print
open Go.RowKit Go.Proofs.YtfcmccecheelfaaGreatDoorW.PrintWords Go.Proofs.YtfcmccecheelfaaGreatDoorW.PrintLast Go.Proofs Go.Proofs.YtfcmccecheelfaaGreatDoor Go.Proofs.YtfcmccecheelfaaGreatDoor.Base Go.Proofs.YtfcmccecheelfaaGreatDoorW.PrintMore
attribute [local go_sem] gtr_text max2_int min2_int max_two min_two max_three min_three max_four min_four   -- for this text's walks alone
set_option linter.unusedVariables false
set_option linter.unusedSimpArgs false



def errW : Option Int → Value
  | none => .nilIface
  | some c => .iface 0 (.int .i64 c)
theorem errW_none : errW none = .nilIface := rfl
theorem errW_some (c : Int) : errW (some c) = .iface 0 (.int .i64 c) := rfl

theorem info3 : (Tryz.prog.info? 3).map (fun i => (i.zero, i.size, i.bytes)) = some (some (.int .i64 0), 1, 8) := by kernel_rfl
-- the values' own types

end Go.Proofs.YtfcmccecheelfaaGreatDoor.Print
