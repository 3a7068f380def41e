/- Laid by xprint.py, a program of this session over the kit's print: for each Go function one Lean function of the same answers, and the walk that shows it. -/
import Derived.Test.YtfncppekjgbedaaDoorProg
import Derived.Below
import Derived.Deep.Draws
import Derived.Deep.AppendLies
import Derived.Maps.AppendAt
import Derived.OwnWalk
import Derived.Laws.BytesArg
import Derived.Laws.MakeOwn
import Derived.Laws.OwnMore
import Derived.Deep.OwnRows
import Derived.Tactics
import Derived.Lib.ConvBytes
import Derived.Laws.Slices
import Derived.WalkKit
import Derived.KernelRfl
import Derived.RowKit3
import Derived.Deep.LoopGhost
import Derived.Deep.QuietTactic
import Derived.BigQuiet
import Derived.WideLaws
import Derived.Deep.DeepCutAuto
import Derived.Deep.CutBlock
import Derived.Deep.RegionHeld3
import Derived.Laws.Rows
import Derived.Lib.AppendStr
import Derived.ArgAppend
import Derived.Laws.IdiomCopy
import Derived.OrdersHeld
import Derived.Laws.BitsLemmas
import Derived.RowKit
import Derived.Test.YtfncppekjgbedaaDoorWWords
import Derived.Test.YtfncppekjgbedaaDoorWLast
import Derived.Test.YtfncppekjgbedaaDoorWTab
import Derived.Test.YtfncppekjgbedaaDoorWFour
import Derived.Test.YtfncppekjgbedaaDoorWQPut
import Derived.Test.YtfncppekjgbedaaDoorWApart
import Derived.Test.YtfncppekjgbedaaDoorWArr
import Derived.Test.YtfncppekjgbedaaDoorWZeros
import Derived.Test.YtfncppekjgbedaaDoorWFoot
import Derived.Test.YtfncppekjgbedaaDoorWKept
import Derived.Test.YtfncppekjgbedaaDoorWShare
import Derived.Test.YtfncppekjgbedaaDoorWN
import Derived.Test.YtfncppekjgbedaaDoorWFootNe
import Derived.Test.YtfncppekjgbedaaDoorWAt
import Derived.Test.YtfncppekjgbedaaDoorWEqStruct
import Derived.Test.YtfncppekjgbedaaDoorWRepsOne
import Derived.Test.YtfncppekjgbedaaDoorWInv
import Derived.Test.YtfncppekjgbedaaDoorWInvWords
import Derived.Test.YtfncppekjgbedaaDoorWGuard
import Derived.Test.YtfncppekjgbedaaDoorWNEv
import Derived.Test.YtfncppekjgbedaaDoorWMore
import Derived.Test.YtfncppekjgbedaaDoorUrlExt
import Derived.Test.YtfncppekjgbedaaDoorTF
namespace Go.Proofs.YtfncppekjgbedaaDoor.XU
open Go.RowKit Go.Proofs.YtfncppekjgbedaaDoor.Ext Go.Proofs.YtfncppekjgbedaaDoor.Utf Go.Proofs.YtfncppekjgbedaaDoorW.PrintWords Go.Proofs.YtfncppekjgbedaaDoorW.PrintLast Go.Proofs.YtfncppekjgbedaaDoorW.PrintMore
attribute [local go_sem] max2_int min2_int max_two min_two max_three min_three max_four min_four   -- for this text's walks alone
set_option linter.unusedVariables false
set_option linter.unusedSimpArgs false



def errW : Option Int → Value
  | none => .nilIface
  | some c => .iface 0 (.int .i64 c)
theorem errW_none : errW none = .nilIface := rfl
theorem errW_some (c : Int) : errW (some c) = .iface 0 (.int .i64 c) := rfl

theorem info5 : (Tryd.prog.info? 5).map (fun i => (i.zero, i.size, i.bytes)) = some (some (.int .u8 0), 1, 1) := by kernel_rfl
theorem info9 : (Tryd.prog.info? 9).map (fun i => (i.zero, i.size, i.bytes)) = some (some (.string ⟨#[]⟩), 1, 16) := by kernel_rfl
-- the values' own types

end Go.Proofs.YtfncppekjgbedaaDoor.XU
