-- Laid by a program of this session (wip/hp.sh): functions, contracts, rows for this claim. Lean checks it.
import Derived.Test.YtomnhkliimkmgaaProg
import Derived.Below
import Derived.Deep.Draws
import Derived.Deep.AppendLies
import Derived.Maps.AppendAt
import Derived.OwnWalk
import Derived.Laws.BytesArg
import Derived.Laws.MakeOwn
import Derived.Laws.OwnMore
import Derived.Deep.OwnRows
import Derived.Tactics
import Derived.Lib.ConvBytes
import Derived.Laws.Slices
import Derived.WalkKit
import Derived.KernelRfl
import Derived.RowKit3
import Derived.Deep.LoopGhost
import Derived.Deep.QuietTactic
import Derived.BigQuiet
import Derived.WideLaws
import Derived.Deep.DeepCutAuto
import Derived.Deep.CutBlock
import Derived.Deep.RegionHeld3
import Derived.Laws.Rows
import Derived.Lib.AppendStr
import Derived.ArgAppend
import Derived.Laws.IdiomCopy
import Derived.OrdersHeld
import Derived.Laws.BitsLemmas
import Derived.RowKit
import Derived.Lib.SlBytesConst
import Derived.Test.YtomnhkliimkmgaaHW
import Derived.Test.YtomnhkliimkmgaaWWords
import Derived.Test.YtomnhkliimkmgaaWLast
import Derived.Test.YtomnhkliimkmgaaWTab
import Derived.Test.YtomnhkliimkmgaaWFour
import Derived.Test.YtomnhkliimkmgaaWQPut
import Derived.Test.YtomnhkliimkmgaaWApart
import Derived.Test.YtomnhkliimkmgaaWArr
import Derived.Test.YtomnhkliimkmgaaWZeros
import Derived.Test.YtomnhkliimkmgaaWFoot
import Derived.Test.YtomnhkliimkmgaaWKept
import Derived.Test.YtomnhkliimkmgaaWShare
import Derived.Test.YtomnhkliimkmgaaWN
import Derived.Test.YtomnhkliimkmgaaWFootNe
import Derived.Test.YtomnhkliimkmgaaWAt
import Derived.Test.YtomnhkliimkmgaaWEqStruct
import Derived.Test.YtomnhkliimkmgaaWRepsOne
import Derived.Test.YtomnhkliimkmgaaWInv
import Derived.Test.YtomnhkliimkmgaaWInvWords
import Derived.Test.YtomnhkliimkmgaaWGuard
import Derived.Test.YtomnhkliimkmgaaWNEv
import Derived.Test.YtomnhkliimkmgaaWMore
namespace Go.Proofs.Ytomnhkliimkmgaa.PSkewRuns
open Go.RowKit Go.Proofs.YtomnhkliimkmgaaW.PrintWords Go.Proofs.YtomnhkliimkmgaaW.PrintLast Go.Proofs.YtomnhkliimkmgaaW.PrintMore
attribute [local go_sem] max2_int min2_int max_two min_two max_three min_three max_four min_four   -- for this text's walks alone
set_option linter.unusedVariables false
set_option linter.unusedSimpArgs false



def errW : Option Int → Value
 | none => .nilIface
 | some c => .iface 0 (.int .i64 c)
theorem errW_none : errW none = .nilIface := rfl
theorem errW_some (c : Int) : errW (some c) = .iface 0 (.int .i64 c) := rfl

theorem info3 : (Try.prog.info? 3).map (fun i => (i.zero, i.size, i.bytes)) = some (some (.int .i64 0), 1, 8) := by kernel_rfl
theorem info5 : (Try.prog.info? 5).map (fun i => (i.zero, i.size, i.bytes)) = some (some (.int .u8 0), 1, 1) := by kernel_rfl
-- the values' own types

end Go.Proofs.Ytomnhkliimkmgaa.PSkewRuns
