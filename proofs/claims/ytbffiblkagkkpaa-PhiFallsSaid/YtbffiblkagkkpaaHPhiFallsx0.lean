-- Laid by a program of this session (wip/hp.sh): functions, contracts, rows for this claim. Lean checks it.
import Derived.Test.YtbffiblkagkkpaaProg
import Derived.Below
import Derived.Deep.Draws
import Derived.Deep.AppendLies
import Derived.Maps.AppendAt
import Derived.OwnWalk
import Derived.Laws.BytesArg
import Derived.Laws.MakeOwn
import Derived.Laws.OwnMore
import Derived.Deep.OwnRows
import Derived.Tactics
import Derived.Lib.ConvBytes
import Derived.Laws.Slices
import Derived.WalkKit
import Derived.KernelRfl
import Derived.RowKit3
import Derived.Deep.LoopGhost
import Derived.Deep.QuietTactic
import Derived.BigQuiet
import Derived.WideLaws
import Derived.Deep.DeepCutAuto
import Derived.Deep.CutBlock
import Derived.Deep.RegionHeld3
import Derived.Laws.Rows
import Derived.Lib.AppendStr
import Derived.ArgAppend
import Derived.Laws.IdiomCopy
import Derived.OrdersHeld
import Derived.Laws.BitsLemmas
import Derived.RowKit
import Derived.Lib.SlBytesConst
import Derived.Test.YtbffiblkagkkpaaHW
import Derived.Test.YtbffiblkagkkpaaWWords
import Derived.Test.YtbffiblkagkkpaaWLast
import Derived.Test.YtbffiblkagkkpaaWTab
import Derived.Test.YtbffiblkagkkpaaWFour
import Derived.Test.YtbffiblkagkkpaaWQPut
import Derived.Test.YtbffiblkagkkpaaWApart
import Derived.Test.YtbffiblkagkkpaaWArr
import Derived.Test.YtbffiblkagkkpaaWZeros
import Derived.Test.YtbffiblkagkkpaaWFoot
import Derived.Test.YtbffiblkagkkpaaWKept
import Derived.Test.YtbffiblkagkkpaaWShare
import Derived.Test.YtbffiblkagkkpaaWN
import Derived.Test.YtbffiblkagkkpaaWFootNe
import Derived.Test.YtbffiblkagkkpaaWAt
import Derived.Test.YtbffiblkagkkpaaWEqStruct
import Derived.Test.YtbffiblkagkkpaaWRepsOne
import Derived.Test.YtbffiblkagkkpaaWInv
import Derived.Test.YtbffiblkagkkpaaWInvWords
import Derived.Test.YtbffiblkagkkpaaWGuard
import Derived.Test.YtbffiblkagkkpaaWNEv
import Derived.Test.YtbffiblkagkkpaaWMore
namespace Go.Proofs.Ytbffiblkagkkpaa.PPhiFalls
open Go.RowKit Go.Proofs.YtbffiblkagkkpaaW.PrintWords Go.Proofs.YtbffiblkagkkpaaW.PrintLast Go.Proofs.YtbffiblkagkkpaaW.PrintMore
attribute [local go_sem] max2_int min2_int max_two min_two max_three min_three max_four min_four   -- for this text's walks alone
set_option linter.unusedVariables false
set_option linter.unusedSimpArgs false



def errW : Option Int → Value
  | none => .nilIface
  | some c => .iface 0 (.int .i64 c)
theorem errW_none : errW none = .nilIface := rfl
theorem errW_some (c : Int) : errW (some c) = .iface 0 (.int .i64 c) := rfl

theorem info3 : (Try.prog.info? 3).map (fun i => (i.zero, i.size, i.bytes)) = some (some (.int .i64 0), 1, 8) := by kernel_rfl
theorem info4 : (Try.prog.info? 4).map (fun i => (i.zero, i.size, i.bytes)) = some (some (.bool false), 1, 1) := by kernel_rfl
-- the values' own types

end Go.Proofs.Ytbffiblkagkkpaa.PPhiFalls
