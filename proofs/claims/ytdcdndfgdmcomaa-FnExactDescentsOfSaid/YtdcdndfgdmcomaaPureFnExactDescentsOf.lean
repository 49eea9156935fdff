/- The law on DescentsOf comes to this: both sides compute the same list; no condition beyond the statement's own. -/
import Derived.Test.YtdcdndfgdmcomaaF0
import Derived.Test.YtdcdndfgdmcomaaF5
import Derived.Test.YtdcdndfgdmcomaaF9
import Derived.Test.YtdcdndfgdmcomaaQAll
import Derived.Test.YtdcdndfgdmcomaaWalkFnExactDescentsOf
set_option linter.unusedVariables false
set_option linter.unusedSimpArgs false
namespace Go.Proofs.Ytdcdndfgdmcomaa.Pure
open Go.RowKit Go.Proofs.Ytdcdndfgdmcomaa.F Go.Proofs.YtdcdndfgdmcomaaW.PrintWords Go.Proofs.YtdcdndfgdmcomaaW.PrintLast Go.Proofs.YtdcdndfgdmcomaaW.PrintMore Go.Proofs.Ytdcdndfgdmcomaa.Q
theorem FnExactDescentsOf : Walk.FnExactDescentsOf.Pure := by
  intro n m _ _ _ _ _ hn hs
  obtain ⟨v, e1, e2, e3⟩ := descents_both n m hn hs.1 hs.2
  exact ⟨v, e1, e2, by omega⟩
end Go.Proofs.Ytdcdndfgdmcomaa.Pure
