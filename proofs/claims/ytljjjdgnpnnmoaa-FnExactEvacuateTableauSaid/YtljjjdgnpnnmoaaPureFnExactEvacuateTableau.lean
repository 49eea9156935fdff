/- The law on EvacuateTableau comes to this: both sides compute the same tableau; no condition beyond the statement's own. -/
import Derived.Test.YtljjjdgnpnnmoaaF0
import Derived.Test.YtljjjdgnpnnmoaaF13
import Derived.Test.YtljjjdgnpnnmoaaQAll
import Derived.Test.YtljjjdgnpnnmoaaWalkFnExactEvacuateTableau
set_option linter.unusedVariables false
set_option linter.unusedSimpArgs false
namespace Go.Proofs.Ytljjjdgnpnnmoaa.Pure
open Go.RowKit Go.Proofs.Ytljjjdgnpnnmoaa.F Go.Proofs.YtljjjdgnpnnmoaaW.PrintWords Go.Proofs.YtljjjdgnpnnmoaaW.PrintLast Go.Proofs.YtljjjdgnpnnmoaaW.PrintMore Go.Proofs.Ytljjjdgnpnnmoaa.Q
theorem FnExactEvacuateTableau : Walk.FnExactEvacuateTableau.Pure := by
  intro n m a _ _ _ _ _ _ hn hs
  have hlen := evacuateWord_le (readT n m) a
  refine ⟨(Walk.evacT n m a).1, (Walk.evacT n m a).2.1, (Walk.evacT n m a).2.2, ?_, ?_, ?_⟩
  · unfold Walk.spec_EvacuateTableau.f
    rw [if_pos ⟨hn, hs.1, hs.2⟩]
  · unfold Walk.impl_EvacuateTableau.f
    rw [if_pos ⟨hn, hs.1, hs.2⟩]
  · unfold Walk.evacT
    split
    · unfold insT
      obtain ⟨s1, s2⟩ := insAll_small (evacuateWord (readT n m) a).1
      split
      · refine ⟨by simp, ?_, ?_⟩ <;> dsimp only <;> omega
      · exact ⟨by simp, by simp, by simp [bulk]⟩
    · exact ⟨by simp, by simp, by simp [bulk]⟩
end Go.Proofs.Ytljjjdgnpnnmoaa.Pure
