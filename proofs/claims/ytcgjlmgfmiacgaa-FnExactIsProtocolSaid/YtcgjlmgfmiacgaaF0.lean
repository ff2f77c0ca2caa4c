/- The walk of one Go function: a call of it ends as the Lean function of its name tells; the conditions are those of each theorem. -/
import Derived.Test.YtcgjlmgfmiacgaaProg
import Derived.Below
import Derived.Deep.Draws
import Derived.Deep.AppendLies
import Derived.Maps.AppendAt
import Derived.OwnWalk
import Derived.Laws.BytesArg
import Derived.Laws.MakeOwn
import Derived.Laws.OwnMore
import Derived.Deep.OwnRows
import Derived.Tactics
import Derived.Lib.ConvBytes
import Derived.Laws.Slices
import Derived.WalkKit
import Derived.KernelRfl
import Derived.RowKit3
import Derived.Deep.LoopGhost
import Derived.Deep.QuietTactic
import Derived.BigQuiet
import Derived.WideLaws
import Derived.Deep.DeepCutAuto
import Derived.Deep.CutBlock
import Derived.Deep.RegionHeld3
import Derived.Laws.Rows
import Derived.Lib.AppendStr
import Derived.ArgAppend
import Derived.Laws.IdiomCopy
import Derived.OrdersHeld
import Derived.Laws.BitsLemmas
import Derived.RowKit
import Derived.Shelf.Abstract
import Derived.Maps.Own
import Derived.Maps.OwnOps
import Derived.Maps.OwnSet
import Derived.Lib.Hide
import Derived.Test.YtcgjlmgfmiacgaaWWords
import Derived.Test.YtcgjlmgfmiacgaaWLast
import Derived.Test.YtcgjlmgfmiacgaaWTab
import Derived.Test.YtcgjlmgfmiacgaaWFour
import Derived.Test.YtcgjlmgfmiacgaaWQPut
import Derived.Test.YtcgjlmgfmiacgaaWApart
import Derived.Test.YtcgjlmgfmiacgaaWArr
import Derived.Test.YtcgjlmgfmiacgaaWZeros
import Derived.Test.YtcgjlmgfmiacgaaWFoot
import Derived.Test.YtcgjlmgfmiacgaaWKept
import Derived.Test.YtcgjlmgfmiacgaaWShare
import Derived.Test.YtcgjlmgfmiacgaaWN
import Derived.Test.YtcgjlmgfmiacgaaWFootNe
import Derived.Test.YtcgjlmgfmiacgaaWAt
import Derived.Test.YtcgjlmgfmiacgaaWEqStruct
import Derived.Test.YtcgjlmgfmiacgaaWRepsOne
import Derived.Test.YtcgjlmgfmiacgaaWInv
import Derived.Test.YtcgjlmgfmiacgaaWInvWords
import Derived.Test.YtcgjlmgfmiacgaaWGuard
import Derived.Test.YtcgjlmgfmiacgaaWNEv
import Derived.Test.YtcgjlmgfmiacgaaWMore
namespace Go.Proofs.Ytcgjlmgfmiacgaa.F
open Go.RowKit Go.Proofs.YtcgjlmgfmiacgaaW.PrintWords Go.Proofs.YtcgjlmgfmiacgaaW.PrintLast Go.Proofs.YtcgjlmgfmiacgaaW.PrintMore
attribute [local go_sem] max2_int min2_int max_two min_two max_three min_three max_four min_four   -- for this text's walks alone
set_option linter.unusedVariables false
set_option linter.unusedSimpArgs false



def errW : Option Int → Value
  | none => .nilIface
  | some c => .iface 0 (.int .i64 c)
theorem errW_none : errW none = .nilIface := rfl
theorem errW_some (c : Int) : errW (some c) = .iface 0 (.int .i64 c) := rfl

theorem info3 : (Try.prog.info? 3).map (fun i => (i.zero, i.size, i.bytes)) = some (some (.int .i64 0), 1, 8) := by kernel_rfl
-- the values' own types

end Go.Proofs.Ytcgjlmgfmiacgaa.F
