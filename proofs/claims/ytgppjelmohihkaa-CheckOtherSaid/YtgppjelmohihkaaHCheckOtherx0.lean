-- Laid by a program of this session (wip/hp.sh): functions, contracts, rows for this claim. Lean checks it.
import Derived.Test.YtgppjelmohihkaaProg
import Derived.Below
import Derived.Deep.Draws
import Derived.Deep.AppendLies
import Derived.Maps.AppendAt
import Derived.OwnWalk
import Derived.Laws.BytesArg
import Derived.Laws.MakeOwn
import Derived.Laws.OwnMore
import Derived.Deep.OwnRows
import Derived.Tactics
import Derived.Lib.ConvBytes
import Derived.Laws.Slices
import Derived.WalkKit
import Derived.KernelRfl
import Derived.RowKit3
import Derived.Deep.LoopGhost
import Derived.Deep.QuietTactic
import Derived.BigQuiet
import Derived.WideLaws
import Derived.Deep.DeepCutAuto
import Derived.Deep.CutBlock
import Derived.Deep.RegionHeld3
import Derived.Laws.Rows
import Derived.Lib.AppendStr
import Derived.ArgAppend
import Derived.Laws.IdiomCopy
import Derived.OrdersHeld
import Derived.Laws.BitsLemmas
import Derived.RowKit
import Derived.Lib.SlBytesConst
import Derived.Test.YtgppjelmohihkaaHW
import Derived.Test.YtgppjelmohihkaaWWords
import Derived.Test.YtgppjelmohihkaaWLast
import Derived.Test.YtgppjelmohihkaaWTab
import Derived.Test.YtgppjelmohihkaaWFour
import Derived.Test.YtgppjelmohihkaaWQPut
import Derived.Test.YtgppjelmohihkaaWApart
import Derived.Test.YtgppjelmohihkaaWArr
import Derived.Test.YtgppjelmohihkaaWZeros
import Derived.Test.YtgppjelmohihkaaWFoot
import Derived.Test.YtgppjelmohihkaaWKept
import Derived.Test.YtgppjelmohihkaaWShare
import Derived.Test.YtgppjelmohihkaaWN
import Derived.Test.YtgppjelmohihkaaWFootNe
import Derived.Test.YtgppjelmohihkaaWAt
import Derived.Test.YtgppjelmohihkaaWEqStruct
import Derived.Test.YtgppjelmohihkaaWRepsOne
import Derived.Test.YtgppjelmohihkaaWInv
import Derived.Test.YtgppjelmohihkaaWInvWords
import Derived.Test.YtgppjelmohihkaaWGuard
import Derived.Test.YtgppjelmohihkaaWNEv
import Derived.Test.YtgppjelmohihkaaWMore
namespace Go.Proofs.Ytgppjelmohihkaa.PCheckOther
open Go.RowKit Go.Proofs.YtgppjelmohihkaaW.PrintWords Go.Proofs.YtgppjelmohihkaaW.PrintLast Go.Proofs.YtgppjelmohihkaaW.PrintMore
attribute [local go_sem] max2_int min2_int max_two min_two max_three min_three max_four min_four   -- for this text's walks alone
set_option linter.unusedVariables false
set_option linter.unusedSimpArgs false



def errW : Option Int → Value
  | none => .nilIface
  | some c => .iface 0 (.int .i64 c)
theorem errW_none : errW none = .nilIface := rfl
theorem errW_some (c : Int) : errW (some c) = .iface 0 (.int .i64 c) := rfl

theorem info3 : (Try.prog.info? 3).map (fun i => (i.zero, i.size, i.bytes)) = some (some (.int .i64 0), 1, 8) := by kernel_rfl
theorem info4 : (Try.prog.info? 4).map (fun i => (i.zero, i.size, i.bytes)) = some (some (.bool false), 1, 1) := by kernel_rfl
-- the values' own types

end Go.Proofs.Ytgppjelmohihkaa.PCheckOther
