/- The law on RemoveHorizontal comes to this: both sides compute the same partitions; no condition beyond the statement's own. -/
import Derived.Test.YtaghidcmefbjdaaF0
import Derived.Test.YtaghidcmefbjdaaQAll
import Derived.Test.YtaghidcmefbjdaaWalkFnExactRemoveHorizontal
set_option linter.unusedVariables false
set_option linter.unusedSimpArgs false
namespace Go.Proofs.Ytaghidcmefbjdaa.Pure
open Go.RowKit Go.Proofs.Ytaghidcmefbjdaa.F Go.Proofs.YtaghidcmefbjdaaW.PrintWords Go.Proofs.YtaghidcmefbjdaaW.PrintLast Go.Proofs.YtaghidcmefbjdaaW.PrintMore Go.Proofs.Ytaghidcmefbjdaa.Q
theorem FnExactRemoveHorizontal : Walk.FnExactRemoveHorizontal.Pure := by
  intro p k _ _ _ hp
  have h := removedBy_bd hStrip p k
  have hb := bulk_le9 h.2
  refine ⟨removedBy hStrip p k, ?_, ?_, by omega⟩
  · unfold Walk.spec_RemoveHorizontal.f
    rw [if_pos hp]
  · unfold Walk.impl_RemoveHorizontal.f
    rw [if_pos hp]
end Go.Proofs.Ytaghidcmefbjdaa.Pure
