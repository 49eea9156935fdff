/- The reference's l1In: whether a number lies between two; no condition. -/
import Derived.Test.YtpandocpclecgaaDoorF0
import Derived.Test.YtpandocpclecgaaDoorF1
import Derived.Test.YtpandocpclecgaaDoorQBase
set_option linter.unusedVariables false
set_option linter.unusedSimpArgs false
namespace Go.Proofs.YtpandocpclecgaaDoor.Q
open Go.RowKit Go.Proofs.YtpandocpclecgaaDoor.F Go.Proofs.YtpandocpclecgaaDoorW.PrintWords Go.Proofs.YtpandocpclecgaaDoorW.PrintLast Go.Proofs.YtpandocpclecgaaDoorW.PrintMore
theorem spec_l1In_eq (a b c : Int) : spec_l1In.f a b c = some (decide (b ≤ a ∧ a ≤ c)) := by
  unfold spec_l1In.f
  by_cases h : b ≤ a
  · rw [if_pos h]; simp [h]
  · rw [if_neg h]; simp [h]
end Go.Proofs.YtpandocpclecgaaDoor.Q
