-- Laid by a program of this session (wip/hp.sh): functions, contracts, rows for this claim. Lean checks it.
import Derived.Test.YtpfdjjakfgacpaaProg
import Derived.Below
import Derived.Deep.Draws
import Derived.Deep.AppendLies
import Derived.Maps.AppendAt
import Derived.OwnWalk
import Derived.Laws.BytesArg
import Derived.Laws.MakeOwn
import Derived.Laws.OwnMore
import Derived.Deep.OwnRows
import Derived.Tactics
import Derived.Lib.ConvBytes
import Derived.Laws.Slices
import Derived.WalkKit
import Derived.KernelRfl
import Derived.RowKit3
import Derived.Deep.LoopGhost
import Derived.Deep.QuietTactic
import Derived.BigQuiet
import Derived.WideLaws
import Derived.Deep.DeepCutAuto
import Derived.Deep.CutBlock
import Derived.Deep.RegionHeld3
import Derived.Laws.Rows
import Derived.Lib.AppendStr
import Derived.ArgAppend
import Derived.Laws.IdiomCopy
import Derived.OrdersHeld
import Derived.Laws.BitsLemmas
import Derived.RowKit
import Derived.Lib.SlBytesConst
import Derived.Test.YtpfdjjakfgacpaaHW
import Derived.Test.YtpfdjjakfgacpaaWWords
import Derived.Test.YtpfdjjakfgacpaaWLast
import Derived.Test.YtpfdjjakfgacpaaWTab
import Derived.Test.YtpfdjjakfgacpaaWFour
import Derived.Test.YtpfdjjakfgacpaaWQPut
import Derived.Test.YtpfdjjakfgacpaaWApart
import Derived.Test.YtpfdjjakfgacpaaWArr
import Derived.Test.YtpfdjjakfgacpaaWZeros
import Derived.Test.YtpfdjjakfgacpaaWFoot
import Derived.Test.YtpfdjjakfgacpaaWKept
import Derived.Test.YtpfdjjakfgacpaaWShare
import Derived.Test.YtpfdjjakfgacpaaWN
import Derived.Test.YtpfdjjakfgacpaaWFootNe
import Derived.Test.YtpfdjjakfgacpaaWAt
import Derived.Test.YtpfdjjakfgacpaaWEqStruct
import Derived.Test.YtpfdjjakfgacpaaWRepsOne
import Derived.Test.YtpfdjjakfgacpaaWInv
import Derived.Test.YtpfdjjakfgacpaaWInvWords
import Derived.Test.YtpfdjjakfgacpaaWGuard
import Derived.Test.YtpfdjjakfgacpaaWNEv
import Derived.Test.YtpfdjjakfgacpaaWMore
namespace Go.Proofs.Ytpfdjjakfgacpaa.PKasaiRuns
open Go.RowKit Go.Proofs.YtpfdjjakfgacpaaW.PrintWords Go.Proofs.YtpfdjjakfgacpaaW.PrintLast Go.Proofs.YtpfdjjakfgacpaaW.PrintMore
attribute [local go_sem] max2_int min2_int max_two min_two max_three min_three max_four min_four   -- for this text's walks alone
set_option linter.unusedVariables false
set_option linter.unusedSimpArgs false



def errW : Option Int → Value
  | none => .nilIface
  | some c => .iface 0 (.int .i64 c)
theorem errW_none : errW none = .nilIface := rfl
theorem errW_some (c : Int) : errW (some c) = .iface 0 (.int .i64 c) := rfl

theorem info3 : (Try.prog.info? 3).map (fun i => (i.zero, i.size, i.bytes)) = some (some (.int .i64 0), 1, 8) := by kernel_rfl
theorem info4 : (Try.prog.info? 4).map (fun i => (i.zero, i.size, i.bytes)) = some (some (.bool false), 1, 1) := by kernel_rfl
theorem info5 : (Try.prog.info? 5).map (fun i => (i.zero, i.size, i.bytes)) = some (some (.int .u8 0), 1, 1) := by kernel_rfl
-- the values' own types

end Go.Proofs.Ytpfdjjakfgacpaa.PKasaiRuns
