/- For each Go function named below: the plain Lean function that it computes, and that its call returns just that; conditions: those that each theorem names. -/
import Derived.Test.YtpandocpclecgaaDoorProg
import Derived.Below
import Derived.Deep.Draws
import Derived.Deep.AppendLies
import Derived.Maps.AppendAt
import Derived.OwnWalk
import Derived.Laws.BytesArg
import Derived.Laws.MakeOwn
import Derived.Laws.OwnMore
import Derived.Deep.OwnRows
import Derived.Tactics
import Derived.Lib.ConvBytes
import Derived.Laws.Slices
import Derived.WalkKit
import Derived.KernelRfl
import Derived.RowKit3
import Derived.Deep.LoopGhost
import Derived.Deep.QuietTactic
import Derived.BigQuiet
import Derived.WideLaws
import Derived.Deep.DeepCutAuto
import Derived.Deep.CutBlock
import Derived.Deep.RegionHeld3
import Derived.Laws.Rows
import Derived.Lib.AppendStr
import Derived.ArgAppend
import Derived.Laws.IdiomCopy
import Derived.OrdersHeld
import Derived.Laws.BitsLemmas
import Derived.RowKit
import Derived.Shelf.Abstract
import Derived.Lib.SliceRun
import Derived.Deep.RegionLaw
import Derived.Test.YtpandocpclecgaaDoorWWords
import Derived.Test.YtpandocpclecgaaDoorWLast
import Derived.Test.YtpandocpclecgaaDoorWTab
import Derived.Test.YtpandocpclecgaaDoorWFour
import Derived.Test.YtpandocpclecgaaDoorWQPut
import Derived.Test.YtpandocpclecgaaDoorWApart
import Derived.Test.YtpandocpclecgaaDoorWArr
import Derived.Test.YtpandocpclecgaaDoorWZeros
import Derived.Test.YtpandocpclecgaaDoorWFoot
import Derived.Test.YtpandocpclecgaaDoorWKept
import Derived.Test.YtpandocpclecgaaDoorWShare
import Derived.Test.YtpandocpclecgaaDoorWN
import Derived.Test.YtpandocpclecgaaDoorWFootNe
import Derived.Test.YtpandocpclecgaaDoorWAt
import Derived.Test.YtpandocpclecgaaDoorWEqStruct
import Derived.Test.YtpandocpclecgaaDoorWRepsOne
import Derived.Test.YtpandocpclecgaaDoorWInv
import Derived.Test.YtpandocpclecgaaDoorWInvWords
import Derived.Test.YtpandocpclecgaaDoorWGuard
import Derived.Test.YtpandocpclecgaaDoorWNEv
import Derived.Test.YtpandocpclecgaaDoorWMore
namespace Go.Proofs.YtpandocpclecgaaDoor.F
open Go.RowKit Go.Proofs.YtpandocpclecgaaDoorW.PrintWords Go.Proofs.YtpandocpclecgaaDoorW.PrintLast Go.Proofs.YtpandocpclecgaaDoorW.PrintMore
attribute [local go_sem] max2_int min2_int max_two min_two max_three min_three max_four min_four   -- for this text's walks alone
set_option linter.unusedVariables false
set_option linter.unusedSimpArgs false



def errW : Option Int → Value
  | none => .nilIface
  | some c => .iface 0 (.int .i64 c)
theorem errW_none : errW none = .nilIface := rfl
theorem errW_some (c : Int) : errW (some c) = .iface 0 (.int .i64 c) := rfl

theorem info3 : (Tryd.prog.info? 3).map (fun i => (i.zero, i.size, i.bytes)) = some (some (.int .i64 0), 1, 8) := by kernel_rfl
theorem info5 : (Tryd.prog.info? 5).map (fun i => (i.zero, i.size, i.bytes)) = some (some (.int .u8 0), 1, 1) := by kernel_rfl
theorem info9 : (Tryd.prog.info? 9).map (fun i => (i.zero, i.size, i.bytes)) = some (some (.string ⟨#[]⟩), 1, 16) := by kernel_rfl
-- the values' own types

end Go.Proofs.YtpandocpclecgaaDoor.F
