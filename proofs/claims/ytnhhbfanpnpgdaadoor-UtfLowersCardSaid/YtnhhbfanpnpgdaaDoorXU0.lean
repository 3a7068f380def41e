/- Laid by xprint.py, a program of this session over the kit's print: for each Go function one Lean function of the same answers, and the walk that shows it. -/
import Derived.Test.YtnhhbfanpnpgdaaDoorProg
import Derived.Below
import Derived.Deep.Draws
import Derived.Deep.AppendLies
import Derived.Maps.AppendAt
import Derived.OwnWalk
import Derived.Laws.BytesArg
import Derived.Laws.MakeOwn
import Derived.Laws.OwnMore
import Derived.Deep.OwnRows
import Derived.Tactics
import Derived.Lib.ConvBytes
import Derived.Laws.Slices
import Derived.WalkKit
import Derived.KernelRfl
import Derived.RowKit3
import Derived.Deep.LoopGhost
import Derived.Deep.QuietTactic
import Derived.BigQuiet
import Derived.WideLaws
import Derived.Deep.DeepCutAuto
import Derived.Deep.CutBlock
import Derived.Deep.RegionHeld3
import Derived.Laws.Rows
import Derived.Lib.AppendStr
import Derived.ArgAppend
import Derived.Laws.IdiomCopy
import Derived.OrdersHeld
import Derived.Laws.BitsLemmas
import Derived.RowKit
import Derived.Test.YtnhhbfanpnpgdaaDoorWWords
import Derived.Test.YtnhhbfanpnpgdaaDoorWLast
import Derived.Test.YtnhhbfanpnpgdaaDoorWTab
import Derived.Test.YtnhhbfanpnpgdaaDoorWFour
import Derived.Test.YtnhhbfanpnpgdaaDoorWQPut
import Derived.Test.YtnhhbfanpnpgdaaDoorWApart
import Derived.Test.YtnhhbfanpnpgdaaDoorWArr
import Derived.Test.YtnhhbfanpnpgdaaDoorWZeros
import Derived.Test.YtnhhbfanpnpgdaaDoorWFoot
import Derived.Test.YtnhhbfanpnpgdaaDoorWKept
import Derived.Test.YtnhhbfanpnpgdaaDoorWShare
import Derived.Test.YtnhhbfanpnpgdaaDoorWN
import Derived.Test.YtnhhbfanpnpgdaaDoorWFootNe
import Derived.Test.YtnhhbfanpnpgdaaDoorWAt
import Derived.Test.YtnhhbfanpnpgdaaDoorWEqStruct
import Derived.Test.YtnhhbfanpnpgdaaDoorWRepsOne
import Derived.Test.YtnhhbfanpnpgdaaDoorWInv
import Derived.Test.YtnhhbfanpnpgdaaDoorWInvWords
import Derived.Test.YtnhhbfanpnpgdaaDoorWGuard
import Derived.Test.YtnhhbfanpnpgdaaDoorWNEv
import Derived.Test.YtnhhbfanpnpgdaaDoorWMore
import Derived.Test.YtnhhbfanpnpgdaaDoorExtUtf
import Derived.Test.YtnhhbfanpnpgdaaDoorTF
namespace Go.Proofs.YtnhhbfanpnpgdaaDoor.XU
open Go.RowKit Go.Proofs.YtnhhbfanpnpgdaaDoor.Ext Go.Proofs.YtnhhbfanpnpgdaaDoorW.PrintWords Go.Proofs.YtnhhbfanpnpgdaaDoorW.PrintLast Go.Proofs.YtnhhbfanpnpgdaaDoorW.PrintMore
attribute [local go_sem] max2_int min2_int max_two min_two max_three min_three max_four min_four   -- for this text's walks alone
set_option linter.unusedVariables false
set_option linter.unusedSimpArgs false



def errW : Option Int → Value
  | none => .nilIface
  | some c => .iface 0 (.int .i64 c)
theorem errW_none : errW none = .nilIface := rfl
theorem errW_some (c : Int) : errW (some c) = .iface 0 (.int .i64 c) := rfl

theorem info5 : (Tryd.prog.info? 5).map (fun i => (i.zero, i.size, i.bytes)) = some (some (.int .u8 0), 1, 1) := by kernel_rfl
-- the values' own types

end Go.Proofs.YtnhhbfanpnpgdaaDoor.XU
