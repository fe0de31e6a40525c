/- The machine side of a law, written by a program of this session (wip/mp). -/
import Derived.Test.YtdajcnhhfgnbmaaProg
import Derived.Below
import Derived.Deep.Draws
import Derived.Deep.AppendLies
import Derived.Maps.AppendAt
import Derived.OwnWalk
import Derived.Laws.BytesArg
import Derived.Laws.MakeOwn
import Derived.Laws.OwnMore
import Derived.Deep.OwnRows
import Derived.Tactics
import Derived.Lib.ConvBytes
import Derived.Laws.Slices
import Derived.WalkKit
import Derived.KernelRfl
import Derived.RowKit3
import Derived.Deep.LoopGhost
import Derived.Deep.QuietTactic
import Derived.BigQuiet
import Derived.WideLaws
import Derived.Deep.DeepCutAuto
import Derived.Deep.CutBlock
import Derived.Deep.RegionHeld3
import Derived.Laws.Rows
import Derived.Lib.AppendStr
import Derived.ArgAppend
import Derived.Laws.IdiomCopy
import Derived.OrdersHeld
import Derived.Laws.BitsLemmas
import Derived.RowKit
import Derived.Test.YtdajcnhhfgnbmaaWWords
import Derived.Test.YtdajcnhhfgnbmaaWLast
import Derived.Test.YtdajcnhhfgnbmaaWTab
import Derived.Test.YtdajcnhhfgnbmaaWFour
import Derived.Test.YtdajcnhhfgnbmaaWQPut
import Derived.Test.YtdajcnhhfgnbmaaWApart
import Derived.Test.YtdajcnhhfgnbmaaWArr
import Derived.Test.YtdajcnhhfgnbmaaWZeros
import Derived.Test.YtdajcnhhfgnbmaaWFoot
import Derived.Test.YtdajcnhhfgnbmaaWKept
import Derived.Test.YtdajcnhhfgnbmaaWShare
import Derived.Test.YtdajcnhhfgnbmaaWN
import Derived.Test.YtdajcnhhfgnbmaaWFootNe
import Derived.Test.YtdajcnhhfgnbmaaWAt
import Derived.Test.YtdajcnhhfgnbmaaWEqStruct
import Derived.Test.YtdajcnhhfgnbmaaWRepsOne
import Derived.Test.YtdajcnhhfgnbmaaWInv
import Derived.Test.YtdajcnhhfgnbmaaWInvWords
import Derived.Test.YtdajcnhhfgnbmaaWGuard
import Derived.Test.YtdajcnhhfgnbmaaWNEv
import Derived.Test.YtdajcnhhfgnbmaaWMore
namespace Go.Proofs.Ytdajcnhhfgnbmaa.PThreeMore
open Go.RowKit Go.Proofs.YtdajcnhhfgnbmaaW.PrintWords Go.Proofs.YtdajcnhhfgnbmaaW.PrintLast Go.Proofs.YtdajcnhhfgnbmaaW.PrintMore
attribute [local go_sem] max2_int min2_int max_two min_two max_three min_three max_four min_four   -- for this text's walks alone
set_option linter.unusedVariables false
set_option linter.unusedSimpArgs false



def errW : Option Int → Value
  | none => .nilIface
  | some c => .iface 0 (.int .i64 c)
theorem errW_none : errW none = .nilIface := rfl
theorem errW_some (c : Int) : errW (some c) = .iface 0 (.int .i64 c) := rfl

theorem info3 : (Try.prog.info? 3).map (fun i => (i.zero, i.size, i.bytes)) = some (some (.int .i64 0), 1, 8) := by kernel_rfl
-- the values' own types

end Go.Proofs.Ytdajcnhhfgnbmaa.PThreeMore
