-- Written by a program of this session's (wip/mp) out of the translation, over the kit's print with changes.
import Derived.Test.YtclapemogefepaaProg
import Derived.Below
import Derived.Deep.Draws
import Derived.Deep.AppendLies
import Derived.Maps.AppendAt
import Derived.OwnWalk
import Derived.Laws.BytesArg
import Derived.Laws.MakeOwn
import Derived.Laws.OwnMore
import Derived.Deep.OwnRows
import Derived.Tactics
import Derived.Lib.ConvBytes
import Derived.Laws.Slices
import Derived.WalkKit
import Derived.KernelRfl
import Derived.RowKit3
import Derived.Deep.LoopGhost
import Derived.Deep.QuietTactic
import Derived.BigQuiet
import Derived.WideLaws
import Derived.Deep.DeepCutAuto
import Derived.Deep.CutBlock
import Derived.Deep.RegionHeld3
import Derived.Laws.Rows
import Derived.Lib.AppendStr
import Derived.ArgAppend
import Derived.Laws.IdiomCopy
import Derived.OrdersHeld
import Derived.Laws.BitsLemmas
import Derived.RowKit
import Derived.Lib.SliceRun
import Derived.Test.YtclapemogefepaaWWords
import Derived.Test.YtclapemogefepaaWLast
import Derived.Test.YtclapemogefepaaWTab
import Derived.Test.YtclapemogefepaaWFour
import Derived.Test.YtclapemogefepaaWQPut
import Derived.Test.YtclapemogefepaaWApart
import Derived.Test.YtclapemogefepaaWArr
import Derived.Test.YtclapemogefepaaWZeros
import Derived.Test.YtclapemogefepaaWFoot
import Derived.Test.YtclapemogefepaaWKept
import Derived.Test.YtclapemogefepaaWShare
import Derived.Test.YtclapemogefepaaWN
import Derived.Test.YtclapemogefepaaWFootNe
import Derived.Test.YtclapemogefepaaWAt
import Derived.Test.YtclapemogefepaaWEqStruct
import Derived.Test.YtclapemogefepaaWRepsOne
import Derived.Test.YtclapemogefepaaWInv
import Derived.Test.YtclapemogefepaaWInvWords
import Derived.Test.YtclapemogefepaaWGuard
import Derived.Test.YtclapemogefepaaWNEv
import Derived.Test.YtclapemogefepaaWMore
namespace Go.Proofs.Ytclapemogefepaa.V
open Go.RowKit Go.Proofs.YtclapemogefepaaW.PrintWords Go.Proofs.YtclapemogefepaaW.PrintLast Go.Proofs.YtclapemogefepaaW.PrintMore
attribute [local go_sem] max2_int min2_int max_two min_two max_three min_three max_four min_four   -- for this text's walks alone
set_option linter.unusedVariables false
set_option linter.unusedSimpArgs false



def errW : Option Int → Value
  | none => .nilIface
  | some c => .iface 0 (.int .i64 c)
theorem errW_none : errW none = .nilIface := rfl
theorem errW_some (c : Int) : errW (some c) = .iface 0 (.int .i64 c) := rfl

theorem info3 : (Try.prog.info? 3).map (fun i => (i.zero, i.size, i.bytes)) = some (some (.int .i64 0), 1, 8) := by kernel_rfl
-- the values' own types

end Go.Proofs.Ytclapemogefepaa.V
