/- For each Go function named below: the plain Lean function that it computes, and that its call returns just that; conditions: those that each theorem names. -/
import Derived.Test.YtieoemobdbmhhaaProg
import Derived.Below
import Derived.Deep.Draws
import Derived.Deep.AppendLies
import Derived.Maps.AppendAt
import Derived.OwnWalk
import Derived.Laws.BytesArg
import Derived.Laws.MakeOwn
import Derived.Laws.OwnMore
import Derived.Deep.OwnRows
import Derived.Tactics
import Derived.Lib.ConvBytes
import Derived.Laws.Slices
import Derived.WalkKit
import Derived.KernelRfl
import Derived.RowKit3
import Derived.Deep.LoopGhost
import Derived.Deep.QuietTactic
import Derived.BigQuiet
import Derived.WideLaws
import Derived.Deep.DeepCutAuto
import Derived.Deep.CutBlock
import Derived.Deep.RegionHeld3
import Derived.Laws.Rows
import Derived.Lib.AppendStr
import Derived.ArgAppend
import Derived.Laws.IdiomCopy
import Derived.OrdersHeld
import Derived.Laws.BitsLemmas
import Derived.RowKit
import Derived.Shelf.Abstract
import Derived.Lib.SliceRun
import Derived.Deep.RegionLaw
import Derived.RangeFuncNested
import Derived.RangeFuncBound
import Derived.RangeFuncCalls
import Derived.RangeFuncLeaves
import Derived.RangeFuncFrom
import Derived.Shelf.RegionOpen
import Derived.OwnWalkIn
import Derived.TacticsInMore
import Derived.LoopNIn
import Derived.LoopIn
import Derived.Sort.BigQuietIn
import Derived.IntWalk
import Derived.Test.YtieoemobdbmhhaaWWords
import Derived.Test.YtieoemobdbmhhaaWLast
import Derived.Test.YtieoemobdbmhhaaWTab
import Derived.Test.YtieoemobdbmhhaaWFour
import Derived.Test.YtieoemobdbmhhaaWQPut
import Derived.Test.YtieoemobdbmhhaaWApart
import Derived.Test.YtieoemobdbmhhaaWArr
import Derived.Test.YtieoemobdbmhhaaWZeros
import Derived.Test.YtieoemobdbmhhaaWFoot
import Derived.Test.YtieoemobdbmhhaaWKept
import Derived.Test.YtieoemobdbmhhaaWShare
import Derived.Test.YtieoemobdbmhhaaWN
import Derived.Test.YtieoemobdbmhhaaWFootNe
import Derived.Test.YtieoemobdbmhhaaWAt
import Derived.Test.YtieoemobdbmhhaaWEqStruct
import Derived.Test.YtieoemobdbmhhaaWRepsOne
import Derived.Test.YtieoemobdbmhhaaWInv
import Derived.Test.YtieoemobdbmhhaaWInvWords
import Derived.Test.YtieoemobdbmhhaaWGuard
import Derived.Test.YtieoemobdbmhhaaWNEv
import Derived.Test.YtieoemobdbmhhaaWMore
namespace Go.Proofs.Ytieoemobdbmhhaa.F
open Go.RowKit Go.Proofs.YtieoemobdbmhhaaW.PrintWords Go.Proofs.YtieoemobdbmhhaaW.PrintLast Go.Proofs.YtieoemobdbmhhaaW.PrintMore
attribute [local go_sem] max2_int min2_int max_two min_two max_three min_three max_four min_four   -- for this text's walks alone
set_option linter.unusedVariables false
set_option linter.unusedSimpArgs false



def errW : Option Int → Value
  | none => .nilIface
  | some c => .iface 0 (.int .i64 c)
theorem errW_none : errW none = .nilIface := rfl
theorem errW_some (c : Int) : errW (some c) = .iface 0 (.int .i64 c) := rfl

theorem info3 : (Try.prog.info? 3).map (fun i => (i.zero, i.size, i.bytes)) = some (some (.int .i64 0), 1, 8) := by kernel_rfl
-- the values' own types

end Go.Proofs.Ytieoemobdbmhhaa.F
