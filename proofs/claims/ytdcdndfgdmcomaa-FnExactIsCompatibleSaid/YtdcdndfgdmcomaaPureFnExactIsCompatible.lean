/- The law on IsCompatible comes to this: both sides answer alike; no condition beyond the statement's own. -/
import Derived.Test.YtdcdndfgdmcomaaF0
import Derived.Test.YtdcdndfgdmcomaaF14
import Derived.Test.YtdcdndfgdmcomaaF8
import Derived.Test.YtdcdndfgdmcomaaQAll
import Derived.Test.YtdcdndfgdmcomaaWalkFnExactIsCompatible
set_option linter.unusedVariables false
set_option linter.unusedSimpArgs false
namespace Go.Proofs.Ytdcdndfgdmcomaa.Pure
open Go.RowKit Go.Proofs.Ytdcdndfgdmcomaa.F Go.Proofs.YtdcdndfgdmcomaaW.PrintWords Go.Proofs.YtdcdndfgdmcomaaW.PrintLast Go.Proofs.YtdcdndfgdmcomaaW.PrintMore Go.Proofs.Ytdcdndfgdmcomaa.Q
theorem FnExactIsCompatible : Walk.FnExactIsCompatible.Pure := by
  intro n m l _ _ _ _ _ _ _ hn hs hl
  exact compat_both n m l hn hs.1 hs.2 hl
end Go.Proofs.Ytdcdndfgdmcomaa.Pure
