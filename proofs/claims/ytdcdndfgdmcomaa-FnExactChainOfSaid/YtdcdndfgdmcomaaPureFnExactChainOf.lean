/- The law on ChainOf comes to this: both sides compute the same chain; no condition beyond the statement's own. -/
import Derived.Test.YtdcdndfgdmcomaaF0
import Derived.Test.YtdcdndfgdmcomaaF6
import Derived.Test.YtdcdndfgdmcomaaQAll
import Derived.Test.YtdcdndfgdmcomaaWalkFnExactChainOf
set_option linter.unusedVariables false
set_option linter.unusedSimpArgs false
namespace Go.Proofs.Ytdcdndfgdmcomaa.Pure
open Go.RowKit Go.Proofs.Ytdcdndfgdmcomaa.F Go.Proofs.YtdcdndfgdmcomaaW.PrintWords Go.Proofs.YtdcdndfgdmcomaaW.PrintLast Go.Proofs.YtdcdndfgdmcomaaW.PrintMore Go.Proofs.Ytdcdndfgdmcomaa.Q
theorem FnExactChainOf : Walk.FnExactChainOf.Pure := by
  intro n m _ _ _ _ _ hn hs
  have h := chainOf_bd n m hs.2
  have hb := bulk_le9 h.2
  refine ⟨chainOf n m, spec_ChainOf_ev n m hn hs.1 hs.2, ?_, by omega⟩
  unfold Walk.impl_ChainOf.f
  rw [if_pos ⟨hn, hs.1, hs.2⟩]
end Go.Proofs.Ytdcdndfgdmcomaa.Pure
