/- The law on ClassOf comes to this: both sides compute the same words; no condition beyond the statement's own. -/
import Derived.Test.YthdoglkdcbghpaaDoorF0
import Derived.Test.YthdoglkdcbghpaaDoorQAllB
import Derived.Test.YthdoglkdcbghpaaDoorWalkFnExactClassOf
set_option linter.unusedVariables false
set_option linter.unusedSimpArgs false
namespace Go.Proofs.YthdoglkdcbghpaaDoor.Pure
open Go.RowKit Go.Proofs.YthdoglkdcbghpaaDoor.F Go.Proofs.YthdoglkdcbghpaaDoorW.PrintWords Go.Proofs.YthdoglkdcbghpaaDoorW.PrintLast Go.Proofs.YthdoglkdcbghpaaDoorW.PrintMore Go.Proofs.YthdoglkdcbghpaaDoor.Q
theorem classW_bd (x : List Int) : (classW x).length ≤ 5040 ∧ ∀ z ∈ classW x, z.length ≤ 9 := by
  unfold classW
  by_cases h : isWord x = true ∧ x.length ≤ 7
  · rw [if_pos h]
    have h1 : ∀ l : List (List Int), (ordOf l).length ≤ l.length := fun l => by
      induction l with
      | nil => exact Nat.le_refl _
      | cons a l ih =>
        have h2 : ∀ (w : List Int) (m : List (List Int)), (insW w m).length ≤ m.length + 1 := fun w m => by
          induction m with
          | nil => exact Nat.le_refl _
          | cons b m ih =>
            simp only [insW]
            split
            · simp
            · split
              · simp
              · simp only [List.length_cons]; omega
        have := h2 a (ordOf l)
        show (insW a (ordOf l)).length ≤ _
        simp only [List.length_cons]; omega
    refine ⟨Nat.le_trans (h1 _) (bfs_few x h.2 5040), fun z hz => ?_⟩
    rw [(bfs_perm x 5040 z ((ordOf_mem _ _).1 hz)).length_eq]
    omega
  · rw [if_neg h]; exact ⟨Nat.zero_le _, fun z hz => by cases hz⟩
theorem FnExactClassOf : Walk.FnExactClassOf.Pure := by
  intro x _ _ hx
  obtain ⟨h1, h2⟩ := classW_bd x
  have h3 := bulk_le9 h2
  refine ⟨classW x, ?_, ?_, by omega, by omega⟩
  · unfold Walk.spec_ClassOf.f
    rw [if_pos hx]
  · unfold Walk.impl_ClassOf.f
    rw [if_pos hx]
end Go.Proofs.YthdoglkdcbghpaaDoor.Pure
