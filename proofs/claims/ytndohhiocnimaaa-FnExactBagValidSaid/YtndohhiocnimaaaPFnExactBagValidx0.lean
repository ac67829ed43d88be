-- PRINTED BY print.sh 35421559b90ae4d0a3588c463048766b98c2df88dd9212a6774a882060cdf62d: not written by this session
import Derived.Test.YtndohhiocnimaaaProg
import Derived.Below
import Derived.Deep.Draws
import Derived.Deep.AppendLies
import Derived.Maps.AppendAt
import Derived.OwnWalk
import Derived.Laws.BytesArg
import Derived.Laws.MakeOwn
import Derived.Laws.OwnMore
import Derived.Deep.OwnRows
import Derived.Tactics
import Derived.Lib.ConvBytes
import Derived.Laws.Slices
import Derived.WalkKit
import Derived.KernelRfl
import Derived.RowKit3
import Derived.Deep.LoopGhost
import Derived.Deep.QuietTactic
import Derived.BigQuiet
import Derived.WideLaws
import Derived.Deep.DeepCutAuto
import Derived.Deep.CutBlock
import Derived.Deep.RegionHeld3
import Derived.Laws.Rows
import Derived.Lib.AppendStr
import Derived.ArgAppend
import Derived.Laws.IdiomCopy
import Derived.OrdersHeld
import Derived.Laws.BitsLemmas
import Derived.RowKit
import Derived.Test.YtndohhiocnimaaaWWords
import Derived.Test.YtndohhiocnimaaaWLast
import Derived.Test.YtndohhiocnimaaaWTab
import Derived.Test.YtndohhiocnimaaaWFour
import Derived.Test.YtndohhiocnimaaaWQPut
import Derived.Test.YtndohhiocnimaaaWApart
import Derived.Test.YtndohhiocnimaaaWArr
import Derived.Test.YtndohhiocnimaaaWZeros
import Derived.Test.YtndohhiocnimaaaWFoot
import Derived.Test.YtndohhiocnimaaaWKept
import Derived.Test.YtndohhiocnimaaaWShare
import Derived.Test.YtndohhiocnimaaaWN
import Derived.Test.YtndohhiocnimaaaWFootNe
import Derived.Test.YtndohhiocnimaaaWAt
import Derived.Test.YtndohhiocnimaaaWEqStruct
import Derived.Test.YtndohhiocnimaaaWRepsOne
import Derived.Test.YtndohhiocnimaaaWInv
import Derived.Test.YtndohhiocnimaaaWInvWords
import Derived.Test.YtndohhiocnimaaaWGuard
import Derived.Test.YtndohhiocnimaaaWNEv
import Derived.Test.YtndohhiocnimaaaWMore
namespace Go.Proofs.Ytndohhiocnimaaa.PFnExactBagValid
open Go.RowKit Go.Proofs.YtndohhiocnimaaaW.PrintWords Go.Proofs.YtndohhiocnimaaaW.PrintLast Go.Proofs.YtndohhiocnimaaaW.PrintMore
attribute [local go_sem] max2_int min2_int max_two min_two max_three min_three max_four min_four   -- for this text's walks alone
set_option linter.unusedVariables false
set_option linter.unusedSimpArgs false



def errW : Option Int → Value
  | none => .nilIface
  | some c => .iface 0 (.int .i64 c)
theorem errW_none : errW none = .nilIface := rfl
theorem errW_some (c : Int) : errW (some c) = .iface 0 (.int .i64 c) := rfl

theorem info3 : (Try.prog.info? 3).map (fun i => (i.zero, i.size, i.bytes)) = some (some (.int .i64 0), 1, 8) := by kernel_rfl
-- the values' own types

end Go.Proofs.Ytndohhiocnimaaa.PFnExactBagValid
