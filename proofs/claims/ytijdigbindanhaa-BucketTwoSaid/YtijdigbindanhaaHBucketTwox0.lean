-- Laid by a program of this session (wip/hp.sh): functions, contracts, rows for this claim. Lean checks it.
import Derived.Test.YtijdigbindanhaaProg
import Derived.Below
import Derived.Deep.Draws
import Derived.Deep.AppendLies
import Derived.Maps.AppendAt
import Derived.OwnWalk
import Derived.Laws.BytesArg
import Derived.Laws.MakeOwn
import Derived.Laws.OwnMore
import Derived.Deep.OwnRows
import Derived.Tactics
import Derived.Lib.ConvBytes
import Derived.Laws.Slices
import Derived.WalkKit
import Derived.KernelRfl
import Derived.RowKit3
import Derived.Deep.LoopGhost
import Derived.Deep.QuietTactic
import Derived.BigQuiet
import Derived.WideLaws
import Derived.Deep.DeepCutAuto
import Derived.Deep.CutBlock
import Derived.Deep.RegionHeld3
import Derived.Laws.Rows
import Derived.Lib.AppendStr
import Derived.ArgAppend
import Derived.Laws.IdiomCopy
import Derived.OrdersHeld
import Derived.Laws.BitsLemmas
import Derived.RowKit
import Derived.Lib.SlBytesConst
import Derived.Test.YtijdigbindanhaaHW
import Derived.Test.YtijdigbindanhaaWWords
import Derived.Test.YtijdigbindanhaaWLast
import Derived.Test.YtijdigbindanhaaWTab
import Derived.Test.YtijdigbindanhaaWFour
import Derived.Test.YtijdigbindanhaaWQPut
import Derived.Test.YtijdigbindanhaaWApart
import Derived.Test.YtijdigbindanhaaWArr
import Derived.Test.YtijdigbindanhaaWZeros
import Derived.Test.YtijdigbindanhaaWFoot
import Derived.Test.YtijdigbindanhaaWKept
import Derived.Test.YtijdigbindanhaaWShare
import Derived.Test.YtijdigbindanhaaWN
import Derived.Test.YtijdigbindanhaaWFootNe
import Derived.Test.YtijdigbindanhaaWAt
import Derived.Test.YtijdigbindanhaaWEqStruct
import Derived.Test.YtijdigbindanhaaWRepsOne
import Derived.Test.YtijdigbindanhaaWInv
import Derived.Test.YtijdigbindanhaaWInvWords
import Derived.Test.YtijdigbindanhaaWGuard
import Derived.Test.YtijdigbindanhaaWNEv
import Derived.Test.YtijdigbindanhaaWMore
namespace Go.Proofs.Ytijdigbindanhaa.PBucketTwo
open Go.RowKit Go.Proofs.YtijdigbindanhaaW.PrintWords Go.Proofs.YtijdigbindanhaaW.PrintLast Go.Proofs.YtijdigbindanhaaW.PrintMore
attribute [local go_sem] max2_int min2_int max_two min_two max_three min_three max_four min_four   -- for this text's walks alone
set_option linter.unusedVariables false
set_option linter.unusedSimpArgs false



def errW : Option Int → Value
  | none => .nilIface
  | some c => .iface 0 (.int .i64 c)
theorem errW_none : errW none = .nilIface := rfl
theorem errW_some (c : Int) : errW (some c) = .iface 0 (.int .i64 c) := rfl

theorem info3 : (Try.prog.info? 3).map (fun i => (i.zero, i.size, i.bytes)) = some (some (.int .i64 0), 1, 8) := by kernel_rfl
-- the values' own types

end Go.Proofs.Ytijdigbindanhaa.PBucketTwo
