-- Laid by a program of this session (wip/hp.sh): functions, contracts, rows for this claim. Lean checks it.
import Derived.Test.YtedbajpmndbilaaProg
import Derived.Below
import Derived.Deep.Draws
import Derived.Deep.AppendLies
import Derived.Maps.AppendAt
import Derived.OwnWalk
import Derived.Laws.BytesArg
import Derived.Laws.MakeOwn
import Derived.Laws.OwnMore
import Derived.Deep.OwnRows
import Derived.Tactics
import Derived.Lib.ConvBytes
import Derived.Laws.Slices
import Derived.WalkKit
import Derived.KernelRfl
import Derived.RowKit3
import Derived.Deep.LoopGhost
import Derived.Deep.QuietTactic
import Derived.BigQuiet
import Derived.WideLaws
import Derived.Deep.DeepCutAuto
import Derived.Deep.CutBlock
import Derived.Deep.RegionHeld3
import Derived.Laws.Rows
import Derived.Lib.AppendStr
import Derived.ArgAppend
import Derived.Laws.IdiomCopy
import Derived.OrdersHeld
import Derived.Laws.BitsLemmas
import Derived.RowKit
import Derived.Lib.SlBytesConst
import Derived.Test.YtedbajpmndbilaaHW
import Derived.Test.YtedbajpmndbilaaWWords
import Derived.Test.YtedbajpmndbilaaWLast
import Derived.Test.YtedbajpmndbilaaWTab
import Derived.Test.YtedbajpmndbilaaWFour
import Derived.Test.YtedbajpmndbilaaWQPut
import Derived.Test.YtedbajpmndbilaaWApart
import Derived.Test.YtedbajpmndbilaaWArr
import Derived.Test.YtedbajpmndbilaaWZeros
import Derived.Test.YtedbajpmndbilaaWFoot
import Derived.Test.YtedbajpmndbilaaWKept
import Derived.Test.YtedbajpmndbilaaWShare
import Derived.Test.YtedbajpmndbilaaWN
import Derived.Test.YtedbajpmndbilaaWFootNe
import Derived.Test.YtedbajpmndbilaaWAt
import Derived.Test.YtedbajpmndbilaaWEqStruct
import Derived.Test.YtedbajpmndbilaaWRepsOne
import Derived.Test.YtedbajpmndbilaaWInv
import Derived.Test.YtedbajpmndbilaaWInvWords
import Derived.Test.YtedbajpmndbilaaWGuard
import Derived.Test.YtedbajpmndbilaaWNEv
import Derived.Test.YtedbajpmndbilaaWMore
namespace Go.Proofs.Ytedbajpmndbilaa.PLexCompares
open Go.RowKit Go.Proofs.YtedbajpmndbilaaW.PrintWords Go.Proofs.YtedbajpmndbilaaW.PrintLast Go.Proofs.YtedbajpmndbilaaW.PrintMore
attribute [local go_sem] max2_int min2_int max_two min_two max_three min_three max_four min_four   -- for this text's walks alone
set_option linter.unusedVariables false
set_option linter.unusedSimpArgs false



def errW : Option Int → Value
  | none => .nilIface
  | some c => .iface 0 (.int .i64 c)
theorem errW_none : errW none = .nilIface := rfl
theorem errW_some (c : Int) : errW (some c) = .iface 0 (.int .i64 c) := rfl

theorem info5 : (Try.prog.info? 5).map (fun i => (i.zero, i.size, i.bytes)) = some (some (.int .u8 0), 1, 1) := by kernel_rfl
-- the values' own types

end Go.Proofs.Ytedbajpmndbilaa.PLexCompares
