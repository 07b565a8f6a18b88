-- By the session's own printer (wip/mkmyprint.py).
import Derived.Test.YtcfibadhikohfaaProg
import Derived.Below
import Derived.Deep.Draws
import Derived.Deep.AppendLies
import Derived.Maps.AppendAt
import Derived.OwnWalk
import Derived.Laws.BytesArg
import Derived.Laws.MakeOwn
import Derived.Laws.OwnMore
import Derived.Deep.OwnRows
import Derived.Tactics
import Derived.Lib.ConvBytes
import Derived.Laws.Slices
import Derived.WalkKit
import Derived.KernelRfl
import Derived.RowKit3
import Derived.Deep.LoopGhost
import Derived.Deep.QuietTactic
import Derived.BigQuiet
import Derived.WideLaws
import Derived.Deep.DeepCutAuto
import Derived.Deep.CutBlock
import Derived.Deep.RegionHeld3
import Derived.Laws.Rows
import Derived.Lib.AppendStr
import Derived.ArgAppend
import Derived.Laws.IdiomCopy
import Derived.OrdersHeld
import Derived.Laws.BitsLemmas
import Derived.RowKit
import Derived.Test.YtcfibadhikohfaaWWords
import Derived.Test.YtcfibadhikohfaaWLast
import Derived.Test.YtcfibadhikohfaaWTab
import Derived.Test.YtcfibadhikohfaaWFour
import Derived.Test.YtcfibadhikohfaaWQPut
import Derived.Test.YtcfibadhikohfaaWApart
import Derived.Test.YtcfibadhikohfaaWArr
import Derived.Test.YtcfibadhikohfaaWZeros
import Derived.Test.YtcfibadhikohfaaWFoot
import Derived.Test.YtcfibadhikohfaaWKept
import Derived.Test.YtcfibadhikohfaaWShare
import Derived.Test.YtcfibadhikohfaaWN
import Derived.Test.YtcfibadhikohfaaWFootNe
import Derived.Test.YtcfibadhikohfaaWAt
import Derived.Test.YtcfibadhikohfaaWEqStruct
import Derived.Test.YtcfibadhikohfaaWRepsOne
import Derived.Test.YtcfibadhikohfaaWInv
import Derived.Test.YtcfibadhikohfaaWInvWords
import Derived.Test.YtcfibadhikohfaaWGuard
import Derived.Test.YtcfibadhikohfaaWNEv
import Derived.Test.YtcfibadhikohfaaWMore
import Derived.Test.YtcfibadhikohfaaGRun
namespace Go.Proofs.Ytcfibadhikohfaa.PSumBurst
open Go.RowKit Go.Proofs.YtcfibadhikohfaaW.PrintWords Go.Proofs.YtcfibadhikohfaaW.PrintLast Go.Proofs.YtcfibadhikohfaaW.PrintMore Go.Proofs.Ytcfibadhikohfaa.Giv
attribute [local go_sem] max2_int min2_int max_two min_two max_three min_three max_four min_four   -- for this text's walks alone
set_option linter.unusedVariables false
set_option linter.unusedSimpArgs false



def errW : Option Int → Value
  | none => .nilIface
  | some c => .iface 0 (.int .i64 c)
theorem errW_none : errW none = .nilIface := rfl
theorem errW_some (c : Int) : errW (some c) = .iface 0 (.int .i64 c) := rfl

theorem info5 : (Try.prog.info? 5).map (fun i => (i.zero, i.size, i.bytes)) = some (some (.int .u8 0), 1, 1) := by kernel_rfl
-- the values' own types

end Go.Proofs.Ytcfibadhikohfaa.PSumBurst
