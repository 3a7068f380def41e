/- Laid by xprint.py, a program of this session over the kit's print: for each Go function one Lean function of the same answers, and the walk that shows it. -/
import Derived.Test.YtnhhbfanpnpgdaaProg
import Derived.Below
import Derived.Deep.Draws
import Derived.Deep.AppendLies
import Derived.Maps.AppendAt
import Derived.OwnWalk
import Derived.Laws.BytesArg
import Derived.Laws.MakeOwn
import Derived.Laws.OwnMore
import Derived.Deep.OwnRows
import Derived.Tactics
import Derived.Lib.ConvBytes
import Derived.Laws.Slices
import Derived.WalkKit
import Derived.KernelRfl
import Derived.RowKit3
import Derived.Deep.LoopGhost
import Derived.Deep.QuietTactic
import Derived.BigQuiet
import Derived.WideLaws
import Derived.Deep.DeepCutAuto
import Derived.Deep.CutBlock
import Derived.Deep.RegionHeld3
import Derived.Laws.Rows
import Derived.Lib.AppendStr
import Derived.ArgAppend
import Derived.Laws.IdiomCopy
import Derived.OrdersHeld
import Derived.Laws.BitsLemmas
import Derived.RowKit
import Derived.Test.YtnhhbfanpnpgdaaWWords
import Derived.Test.YtnhhbfanpnpgdaaWLast
import Derived.Test.YtnhhbfanpnpgdaaWTab
import Derived.Test.YtnhhbfanpnpgdaaWFour
import Derived.Test.YtnhhbfanpnpgdaaWQPut
import Derived.Test.YtnhhbfanpnpgdaaWApart
import Derived.Test.YtnhhbfanpnpgdaaWArr
import Derived.Test.YtnhhbfanpnpgdaaWZeros
import Derived.Test.YtnhhbfanpnpgdaaWFoot
import Derived.Test.YtnhhbfanpnpgdaaWKept
import Derived.Test.YtnhhbfanpnpgdaaWShare
import Derived.Test.YtnhhbfanpnpgdaaWN
import Derived.Test.YtnhhbfanpnpgdaaWFootNe
import Derived.Test.YtnhhbfanpnpgdaaWAt
import Derived.Test.YtnhhbfanpnpgdaaWEqStruct
import Derived.Test.YtnhhbfanpnpgdaaWRepsOne
import Derived.Test.YtnhhbfanpnpgdaaWInv
import Derived.Test.YtnhhbfanpnpgdaaWInvWords
import Derived.Test.YtnhhbfanpnpgdaaWGuard
import Derived.Test.YtnhhbfanpnpgdaaWNEv
import Derived.Test.YtnhhbfanpnpgdaaWMore
import Derived.Test.YtnhhbfanpnpgdaaExt
import Derived.Test.YtnhhbfanpnpgdaaTF
namespace Go.Proofs.Ytnhhbfanpnpgdaa.XF
open Go.RowKit Go.Proofs.Ytnhhbfanpnpgdaa.Ext Go.Proofs.YtnhhbfanpnpgdaaW.PrintWords Go.Proofs.YtnhhbfanpnpgdaaW.PrintLast Go.Proofs.YtnhhbfanpnpgdaaW.PrintMore
attribute [local go_sem] max2_int min2_int max_two min_two max_three min_three max_four min_four   -- for this text's walks alone
set_option linter.unusedVariables false
set_option linter.unusedSimpArgs false



def errW : Option Int → Value
  | none => .nilIface
  | some c => .iface 0 (.int .i64 c)
theorem errW_none : errW none = .nilIface := rfl
theorem errW_some (c : Int) : errW (some c) = .iface 0 (.int .i64 c) := rfl

theorem info3 : (Try.prog.info? 3).map (fun i => (i.zero, i.size, i.bytes)) = some (some (.int .i64 0), 1, 8) := by kernel_rfl
theorem info5 : (Try.prog.info? 5).map (fun i => (i.zero, i.size, i.bytes)) = some (some (.int .u8 0), 1, 1) := by kernel_rfl
theorem info9 : (Try.prog.info? 9).map (fun i => (i.zero, i.size, i.bytes)) = some (some (.string ⟨#[]⟩), 1, 16) := by kernel_rfl
-- the values' own types

end Go.Proofs.Ytnhhbfanpnpgdaa.XF
