/- The law on SlideInto comes to this: both sides compute the same tableau, row and answer; no condition beyond the statement's own. -/
import Derived.Test.YtljjjdgnpnnmoaaF0
import Derived.Test.YtljjjdgnpnnmoaaF7
import Derived.Test.YtljjjdgnpnnmoaaQAll
import Derived.Test.YtljjjdgnpnnmoaaWalkFnExactSlideInto
set_option linter.unusedVariables false
set_option linter.unusedSimpArgs false
namespace Go.Proofs.Ytljjjdgnpnnmoaa.Pure
open Go.RowKit Go.Proofs.Ytljjjdgnpnnmoaa.F Go.Proofs.YtljjjdgnpnnmoaaW.PrintWords Go.Proofs.YtljjjdgnpnnmoaaW.PrintLast Go.Proofs.YtljjjdgnpnnmoaaW.PrintMore Go.Proofs.Ytljjjdgnpnnmoaa.Q
theorem FnExactSlideInto : Walk.FnExactSlideInto.Pure := by
  intro n m a _ _ _ _ _ _ hn hs
  refine ⟨(slideIntoT n m a).1, (slideIntoT n m a).2.1, (slideIntoT n m a).2.2.1, (slideIntoT n m a).2.2.2, spec_SlideInto_ev n m a hn hs.1 (fun r hr => by have := bulk_mem hr; omega), ?_, ?_⟩
  · unfold Walk.impl_SlideInto.f
    rw [if_pos ⟨hn, hs.1, hs.2⟩]
  · have := slideIntoT_bd n m a
    exact ⟨by omega, by omega, by omega⟩
end Go.Proofs.Ytljjjdgnpnnmoaa.Pure
