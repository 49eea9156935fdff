/- The reference's l1In: whether a number lies between two; no condition. -/
import Derived.Test.YtieoemobdbmhhaaF0
import Derived.Test.YtieoemobdbmhhaaF1
import Derived.Test.YtieoemobdbmhhaaQBase
set_option linter.unusedVariables false
set_option linter.unusedSimpArgs false
namespace Go.Proofs.Ytieoemobdbmhhaa.Q
open Go.RowKit Go.Proofs.Ytieoemobdbmhhaa.F Go.Proofs.YtieoemobdbmhhaaW.PrintWords Go.Proofs.YtieoemobdbmhhaaW.PrintLast Go.Proofs.YtieoemobdbmhhaaW.PrintMore
theorem spec_l1In_eq (a b c : Int) : spec_l1In.f a b c = some (decide (b ≤ a ∧ a ≤ c)) := by
  unfold spec_l1In.f
  by_cases h : b ≤ a
  · rw [if_pos h]; simp [h]
  · rw [if_neg h]; simp [h]
end Go.Proofs.Ytieoemobdbmhhaa.Q
