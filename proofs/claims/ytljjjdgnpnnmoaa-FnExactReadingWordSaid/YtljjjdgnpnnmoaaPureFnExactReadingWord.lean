/- The law on ReadingWord comes to this: both sides compute the same word; no condition beyond the statement's own. -/
import Derived.Test.YtljjjdgnpnnmoaaF0
import Derived.Test.YtljjjdgnpnnmoaaF4
import Derived.Test.YtljjjdgnpnnmoaaF7
import Derived.Test.YtljjjdgnpnnmoaaQBase
import Derived.Test.YtljjjdgnpnnmoaaQReadingWord
import Derived.Test.YtljjjdgnpnnmoaaWalkFnExactReadingWord
set_option linter.unusedVariables false
set_option linter.unusedSimpArgs false
namespace Go.Proofs.Ytljjjdgnpnnmoaa.Pure
open Go.RowKit Go.Proofs.Ytljjjdgnpnnmoaa.F Go.Proofs.YtljjjdgnpnnmoaaW.PrintWords Go.Proofs.YtljjjdgnpnnmoaaW.PrintLast Go.Proofs.YtljjjdgnpnnmoaaW.PrintMore Go.Proofs.Ytljjjdgnpnnmoaa.Q
theorem FnExactReadingWord : Walk.FnExactReadingWord.Pure := by
  intro n m _ _ _ _ _ hn hs
  refine ⟨_, spec_ReadingWord_ev n m hn hs.1 hs.2, impl_ReadingWord_ev n m hn hs.1 hs.2, ?_⟩
  by_cases h : isTab n m = true
  · rw [if_pos h, readAll_bulk]; omega
  · rw [if_neg h]; simp
end Go.Proofs.Ytljjjdgnpnnmoaa.Pure
