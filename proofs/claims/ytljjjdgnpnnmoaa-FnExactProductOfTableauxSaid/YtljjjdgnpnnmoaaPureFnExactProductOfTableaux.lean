/- The law on ProductOfTableaux comes to this: both sides compute the same tableau; no condition beyond the statement's own. -/
import Derived.Test.YtljjjdgnpnnmoaaF0
import Derived.Test.YtljjjdgnpnnmoaaF13
import Derived.Test.YtljjjdgnpnnmoaaQAll
import Derived.Test.YtljjjdgnpnnmoaaWalkFnExactProductOfTableaux
set_option linter.unusedVariables false
set_option linter.unusedSimpArgs false
namespace Go.Proofs.Ytljjjdgnpnnmoaa.Pure
open Go.RowKit Go.Proofs.Ytljjjdgnpnnmoaa.F Go.Proofs.YtljjjdgnpnnmoaaW.PrintWords Go.Proofs.YtljjjdgnpnnmoaaW.PrintLast Go.Proofs.YtljjjdgnpnnmoaaW.PrintMore Go.Proofs.Ytljjjdgnpnnmoaa.Q
theorem FnExactProductOfTableaux : Walk.FnExactProductOfTableaux.Pure := by
  intro n m n' m' _ _ _ _ _ _ _ _ _ _ hn hs hn' hs'
  have hb : (n.length ≤ 1048576 ∧ m.length ≤ 1048576 ∧ bulk m ≤ 1048576) ∧ n'.length ≤ 1048576 ∧ m'.length ≤ 1048576 ∧ bulk m' ≤ 1048576 := ⟨⟨hn, hs.1, hs.2⟩, hn', hs'.1, hs'.2⟩
  refine ⟨(Walk.prodT n m n' m').1, (Walk.prodT n m n' m').2.1, (Walk.prodT n m n' m').2.2, ?_, ?_, ?_⟩
  · unfold Walk.spec_ProductOfTableaux.f
    rw [if_pos hb]
  · unfold Walk.impl_ProductOfTableaux.f
    rw [if_pos hb]
  · unfold Walk.prodT
    split
    · rename_i h
      rw [Bool.and_eq_true] at h
      have h1 := Walk.readT_81 h.1
      have h2 := Walk.readT_81 h.2
      unfold insT
      obtain ⟨s1, s2⟩ := insAll_small (readT n m ++ readT n' m')
      rw [List.length_append] at s1 s2
      split
      · refine ⟨by simp, ?_, ?_⟩ <;> dsimp only <;> omega
      · exact ⟨by simp, by simp, by simp [bulk]⟩
    · exact ⟨by simp, by simp, by simp [bulk]⟩
end Go.Proofs.Ytljjjdgnpnnmoaa.Pure
