/- The reference's l1In: whether a number lies between two; no condition. -/
import Derived.Test.YtljjjdgnpnnmoaaF0
import Derived.Test.YtljjjdgnpnnmoaaF2
import Derived.Test.YtljjjdgnpnnmoaaQBase
set_option linter.unusedVariables false
set_option linter.unusedSimpArgs false
namespace Go.Proofs.Ytljjjdgnpnnmoaa.Q
open Go.RowKit Go.Proofs.Ytljjjdgnpnnmoaa.F Go.Proofs.YtljjjdgnpnnmoaaW.PrintWords Go.Proofs.YtljjjdgnpnnmoaaW.PrintLast Go.Proofs.YtljjjdgnpnnmoaaW.PrintMore
theorem spec_l1In_eq (a b c : Int) : spec_l1In.f a b c = some (decide (b ≤ a ∧ a ≤ c)) := by
  unfold spec_l1In.f
  by_cases h : b ≤ a
  · rw [if_pos h]; simp [h]
  · rw [if_neg h]; simp [h]
end Go.Proofs.Ytljjjdgnpnnmoaa.Q
