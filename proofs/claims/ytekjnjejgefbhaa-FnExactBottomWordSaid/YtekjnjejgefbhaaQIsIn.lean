/- The reference's l1In: whether a number lies between two; no condition. -/
import Derived.Test.YtekjnjejgefbhaaF0
import Derived.Test.YtekjnjejgefbhaaF2
import Derived.Test.YtekjnjejgefbhaaQBase
set_option linter.unusedVariables false
set_option linter.unusedSimpArgs false
namespace Go.Proofs.Ytekjnjejgefbhaa.Q
open Go.RowKit Go.Proofs.Ytekjnjejgefbhaa.F Go.Proofs.YtekjnjejgefbhaaW.PrintWords Go.Proofs.YtekjnjejgefbhaaW.PrintLast Go.Proofs.YtekjnjejgefbhaaW.PrintMore
theorem spec_l1In_eq (a b c : Int) : spec_l1In.f a b c = some (decide (b ≤ a ∧ a ≤ c)) := by
  unfold spec_l1In.f
  by_cases h : b ≤ a
  · rw [if_pos h]; simp [h]
  · rw [if_neg h]; simp [h]
end Go.Proofs.Ytekjnjejgefbhaa.Q
