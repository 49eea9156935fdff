/- The law on PairOfMatrix comes to this: both sides compute the same two tableaux; no condition beyond the statement's own. -/
import Derived.Test.YtekjnjejgefbhaaF0
import Derived.Test.YtekjnjejgefbhaaF3
import Derived.Test.YtekjnjejgefbhaaQAll
import Derived.Test.YtekjnjejgefbhaaWalkFnExactPairOfMatrix
set_option linter.unusedVariables false
set_option linter.unusedSimpArgs false
namespace Go.Proofs.Ytekjnjejgefbhaa.Pure
open Go.RowKit Go.Proofs.Ytekjnjejgefbhaa.F Go.Proofs.YtekjnjejgefbhaaW.PrintWords Go.Proofs.YtekjnjejgefbhaaW.PrintLast Go.Proofs.YtekjnjejgefbhaaW.PrintMore Go.Proofs.Ytekjnjejgefbhaa.Q
theorem FnExactPairOfMatrix : Walk.FnExactPairOfMatrix.Pure := by
  intro m _ _ _ hs
  have hb := pairT_bd m
  exact ⟨(pairT m).1, (pairT m).2.1, (pairT m).2.2.1, (pairT m).2.2.2.1, (pairT m).2.2.2.2, by unfold Walk.spec_PairOfMatrix.f; rw [if_pos ⟨hs.1, hs.2⟩], rfl, by omega, by omega, by omega, by omega⟩
end Go.Proofs.Ytekjnjejgefbhaa.Pure
