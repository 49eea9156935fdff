/- The law on TopWord comes to this: both sides compute the same word; no condition beyond the statement's own. -/
import Derived.Test.YtekjnjejgefbhaaF0
import Derived.Test.YtekjnjejgefbhaaF3
import Derived.Test.YtekjnjejgefbhaaQBase
import Derived.Test.YtekjnjejgefbhaaQRows
import Derived.Test.YtekjnjejgefbhaaQMatWord
import Derived.Test.YtekjnjejgefbhaaWalkFnExactTopWord
set_option linter.unusedVariables false
set_option linter.unusedSimpArgs false
namespace Go.Proofs.Ytekjnjejgefbhaa.Pure
open Go.RowKit Go.Proofs.Ytekjnjejgefbhaa.F Go.Proofs.YtekjnjejgefbhaaW.PrintWords Go.Proofs.YtekjnjejgefbhaaW.PrintLast Go.Proofs.YtekjnjejgefbhaaW.PrintMore Go.Proofs.Ytekjnjejgefbhaa.Q
theorem FnExactTopWord : Walk.FnExactTopWord.Pure := by
  intro m _ _ _ hs
  have hr : ∀ r ∈ m, r.length ≤ 1048576 := fun r h => by have := bulk_mem h; omega
  exact ⟨matWord true m, spec_TopWord_ev m hs.1 hr, rfl, by have := matWord_bd true m; omega⟩
end Go.Proofs.Ytekjnjejgefbhaa.Pure
