-- Written by a program of this session's (wip/mp) out of the translation, over the kit's print with changes.
import Derived.Test.YtmgpdneehdnjlaaProg
import Derived.Below
import Derived.Deep.Draws
import Derived.Deep.AppendLies
import Derived.Maps.AppendAt
import Derived.OwnWalk
import Derived.Laws.BytesArg
import Derived.Laws.MakeOwn
import Derived.Laws.OwnMore
import Derived.Deep.OwnRows
import Derived.Tactics
import Derived.Lib.ConvBytes
import Derived.Laws.Slices
import Derived.WalkKit
import Derived.KernelRfl
import Derived.RowKit3
import Derived.Deep.LoopGhost
import Derived.Deep.QuietTactic
import Derived.BigQuiet
import Derived.WideLaws
import Derived.Deep.DeepCutAuto
import Derived.Deep.CutBlock
import Derived.Deep.RegionHeld3
import Derived.Laws.Rows
import Derived.Lib.AppendStr
import Derived.ArgAppend
import Derived.Laws.IdiomCopy
import Derived.OrdersHeld
import Derived.Laws.BitsLemmas
import Derived.RowKit
import Derived.Lib.SliceRun
import Derived.Test.YtmgpdneehdnjlaaShelf
import Derived.Sort.Grow
import Derived.Sort.Row
import Derived.Test.YtmgpdneehdnjlaaWY
import Derived.Test.YtmgpdneehdnjlaaWWords
import Derived.Test.YtmgpdneehdnjlaaWLast
import Derived.Test.YtmgpdneehdnjlaaWTab
import Derived.Test.YtmgpdneehdnjlaaWFour
import Derived.Test.YtmgpdneehdnjlaaWQPut
import Derived.Test.YtmgpdneehdnjlaaWApart
import Derived.Test.YtmgpdneehdnjlaaWArr
import Derived.Test.YtmgpdneehdnjlaaWZeros
import Derived.Test.YtmgpdneehdnjlaaWFoot
import Derived.Test.YtmgpdneehdnjlaaWKept
import Derived.Test.YtmgpdneehdnjlaaWShare
import Derived.Test.YtmgpdneehdnjlaaWN
import Derived.Test.YtmgpdneehdnjlaaWFootNe
import Derived.Test.YtmgpdneehdnjlaaWAt
import Derived.Test.YtmgpdneehdnjlaaWEqStruct
import Derived.Test.YtmgpdneehdnjlaaWRepsOne
import Derived.Test.YtmgpdneehdnjlaaWInv
import Derived.Test.YtmgpdneehdnjlaaWInvWords
import Derived.Test.YtmgpdneehdnjlaaWGuard
import Derived.Test.YtmgpdneehdnjlaaWNEv
import Derived.Test.YtmgpdneehdnjlaaWMore
namespace Go.Proofs.Ytmgpdneehdnjlaa.Cf
open Go.RowKit Go.Proofs.YtmgpdneehdnjlaaW.PrintWords Go.Proofs.YtmgpdneehdnjlaaW.PrintLast Go.Proofs.YtmgpdneehdnjlaaW.PrintMore
attribute [local go_sem] max2_int min2_int max_two min_two max_three min_three max_four min_four   -- for this text's walks alone
set_option linter.unusedVariables false
set_option linter.unusedSimpArgs false



def errW : Option Int → Value
  | none => .nilIface
  | some c => .iface 0 (.int .i64 c)
theorem errW_none : errW none = .nilIface := rfl
theorem errW_some (c : Int) : errW (some c) = .iface 0 (.int .i64 c) := rfl

theorem info3 : (Try.prog.info? 3).map (fun i => (i.zero, i.size, i.bytes)) = some (some (.int .i64 0), 1, 8) := by kernel_rfl
-- the values' own types

end Go.Proofs.Ytmgpdneehdnjlaa.Cf
