/- Laid by xprint.py, a program of this session over the kit's print: for each Go function one Lean function of the same answers, and the walk that shows it. -/
import Derived.Test.YtfabijpafbhdbaaDoorProg
import Derived.Below
import Derived.Deep.Draws
import Derived.Deep.AppendLies
import Derived.Maps.AppendAt
import Derived.OwnWalk
import Derived.Laws.BytesArg
import Derived.Laws.MakeOwn
import Derived.Laws.OwnMore
import Derived.Deep.OwnRows
import Derived.Tactics
import Derived.Lib.ConvBytes
import Derived.Laws.Slices
import Derived.WalkKit
import Derived.KernelRfl
import Derived.RowKit3
import Derived.Deep.LoopGhost
import Derived.Deep.QuietTactic
import Derived.BigQuiet
import Derived.WideLaws
import Derived.Deep.DeepCutAuto
import Derived.Deep.CutBlock
import Derived.Deep.RegionHeld3
import Derived.Laws.Rows
import Derived.Lib.AppendStr
import Derived.ArgAppend
import Derived.Laws.IdiomCopy
import Derived.OrdersHeld
import Derived.Laws.BitsLemmas
import Derived.RowKit
import Derived.Test.YtfabijpafbhdbaaDoorWWords
import Derived.Test.YtfabijpafbhdbaaDoorWLast
import Derived.Test.YtfabijpafbhdbaaDoorWTab
import Derived.Test.YtfabijpafbhdbaaDoorWFour
import Derived.Test.YtfabijpafbhdbaaDoorWQPut
import Derived.Test.YtfabijpafbhdbaaDoorWApart
import Derived.Test.YtfabijpafbhdbaaDoorWArr
import Derived.Test.YtfabijpafbhdbaaDoorWZeros
import Derived.Test.YtfabijpafbhdbaaDoorWFoot
import Derived.Test.YtfabijpafbhdbaaDoorWKept
import Derived.Test.YtfabijpafbhdbaaDoorWShare
import Derived.Test.YtfabijpafbhdbaaDoorWN
import Derived.Test.YtfabijpafbhdbaaDoorWFootNe
import Derived.Test.YtfabijpafbhdbaaDoorWAt
import Derived.Test.YtfabijpafbhdbaaDoorWEqStruct
import Derived.Test.YtfabijpafbhdbaaDoorWRepsOne
import Derived.Test.YtfabijpafbhdbaaDoorWInv
import Derived.Test.YtfabijpafbhdbaaDoorWInvWords
import Derived.Test.YtfabijpafbhdbaaDoorWGuard
import Derived.Test.YtfabijpafbhdbaaDoorWNEv
import Derived.Test.YtfabijpafbhdbaaDoorWMore
import Derived.Test.YtfabijpafbhdbaaDoorRefExt
import Derived.Test.YtfabijpafbhdbaaDoorTF
namespace Go.Proofs.YtfabijpafbhdbaaDoor.XR
open Go.RowKit Go.Proofs.YtfabijpafbhdbaaDoor.Ext Go.Proofs.YtfabijpafbhdbaaDoorW.PrintWords Go.Proofs.YtfabijpafbhdbaaDoorW.PrintLast Go.Proofs.YtfabijpafbhdbaaDoorW.PrintMore
attribute [local go_sem] max2_int min2_int max_two min_two max_three min_three max_four min_four   -- for this text's walks alone
set_option linter.unusedVariables false
set_option linter.unusedSimpArgs false



def errW : Option Int → Value
  | none => .nilIface
  | some c => .iface 0 (.int .i64 c)
theorem errW_none : errW none = .nilIface := rfl
theorem errW_some (c : Int) : errW (some c) = .iface 0 (.int .i64 c) := rfl

theorem info5 : (Tryd.prog.info? 5).map (fun i => (i.zero, i.size, i.bytes)) = some (some (.int .u8 0), 1, 1) := by kernel_rfl
theorem info9 : (Tryd.prog.info? 9).map (fun i => (i.zero, i.size, i.bytes)) = some (some (.string ⟨#[]⟩), 1, 16) := by kernel_rfl
-- the values' own types

end Go.Proofs.YtfabijpafbhdbaaDoor.XR
