/- Laid by xprint.py, a program of this session over the kit's print: for each Go function one Lean function of the same answers, and the walk that shows it. -/
import Derived.Test.YtfncppekjgbedaaGreatDoorProg
import Derived.Below
import Derived.Deep.Draws
import Derived.Deep.AppendLies
import Derived.Maps.AppendAt
import Derived.OwnWalk
import Derived.Laws.BytesArg
import Derived.Laws.MakeOwn
import Derived.Laws.OwnMore
import Derived.Deep.OwnRows
import Derived.Tactics
import Derived.Lib.ConvBytes
import Derived.Laws.Slices
import Derived.WalkKit
import Derived.KernelRfl
import Derived.RowKit3
import Derived.Deep.LoopGhost
import Derived.Deep.QuietTactic
import Derived.BigQuiet
import Derived.WideLaws
import Derived.Deep.DeepCutAuto
import Derived.Deep.CutBlock
import Derived.Deep.RegionHeld3
import Derived.Laws.Rows
import Derived.Lib.AppendStr
import Derived.ArgAppend
import Derived.Laws.IdiomCopy
import Derived.OrdersHeld
import Derived.Laws.BitsLemmas
import Derived.RowKit
import Derived.Test.YtfncppekjgbedaaGreatDoorWWords
import Derived.Test.YtfncppekjgbedaaGreatDoorWLast
import Derived.Test.YtfncppekjgbedaaGreatDoorWTab
import Derived.Test.YtfncppekjgbedaaGreatDoorWFour
import Derived.Test.YtfncppekjgbedaaGreatDoorWQPut
import Derived.Test.YtfncppekjgbedaaGreatDoorWApart
import Derived.Test.YtfncppekjgbedaaGreatDoorWArr
import Derived.Test.YtfncppekjgbedaaGreatDoorWZeros
import Derived.Test.YtfncppekjgbedaaGreatDoorWFoot
import Derived.Test.YtfncppekjgbedaaGreatDoorWKept
import Derived.Test.YtfncppekjgbedaaGreatDoorWShare
import Derived.Test.YtfncppekjgbedaaGreatDoorWN
import Derived.Test.YtfncppekjgbedaaGreatDoorWFootNe
import Derived.Test.YtfncppekjgbedaaGreatDoorWAt
import Derived.Test.YtfncppekjgbedaaGreatDoorWEqStruct
import Derived.Test.YtfncppekjgbedaaGreatDoorWRepsOne
import Derived.Test.YtfncppekjgbedaaGreatDoorWInv
import Derived.Test.YtfncppekjgbedaaGreatDoorWInvWords
import Derived.Test.YtfncppekjgbedaaGreatDoorWGuard
import Derived.Test.YtfncppekjgbedaaGreatDoorWNEv
import Derived.Test.YtfncppekjgbedaaGreatDoorWMore
import Derived.Test.YtfncppekjgbedaaGreatDoorUrlExt
import Derived.Test.YtfncppekjgbedaaGreatDoorTF
namespace Go.Proofs.YtfncppekjgbedaaGreatDoor.XU
open Go.RowKit Go.Proofs.YtfncppekjgbedaaGreatDoor.Ext Go.Proofs.YtfncppekjgbedaaGreatDoor.Utf Go.Proofs.YtfncppekjgbedaaGreatDoorW.PrintWords Go.Proofs.YtfncppekjgbedaaGreatDoorW.PrintLast Go.Proofs.YtfncppekjgbedaaGreatDoorW.PrintMore
attribute [local go_sem] max2_int min2_int max_two min_two max_three min_three max_four min_four   -- for this text's walks alone
set_option linter.unusedVariables false
set_option linter.unusedSimpArgs false



def errW : Option Int → Value
  | none => .nilIface
  | some c => .iface 0 (.int .i64 c)
theorem errW_none : errW none = .nilIface := rfl
theorem errW_some (c : Int) : errW (some c) = .iface 0 (.int .i64 c) := rfl

theorem info5 : (Tryz.prog.info? 5).map (fun i => (i.zero, i.size, i.bytes)) = some (some (.int .u8 0), 1, 1) := by kernel_rfl
-- the values' own types

end Go.Proofs.YtfncppekjgbedaaGreatDoor.XU
