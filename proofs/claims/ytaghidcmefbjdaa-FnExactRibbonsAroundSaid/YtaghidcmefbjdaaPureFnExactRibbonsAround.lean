/- The law on RibbonsAround comes to this: both sides compute the same ribbons; no condition beyond the statement's own. -/
import Derived.Test.YtaghidcmefbjdaaF0
import Derived.Test.YtaghidcmefbjdaaQAll
import Derived.Test.YtaghidcmefbjdaaWalkFnExactRibbonsAround
set_option linter.unusedVariables false
set_option linter.unusedSimpArgs false
namespace Go.Proofs.Ytaghidcmefbjdaa.Pure
open Go.RowKit Go.Proofs.Ytaghidcmefbjdaa.F Go.Proofs.YtaghidcmefbjdaaW.PrintWords Go.Proofs.YtaghidcmefbjdaaW.PrintLast Go.Proofs.YtaghidcmefbjdaaW.PrintMore Go.Proofs.Ytaghidcmefbjdaa.Q
theorem FnExactRibbonsAround : Walk.FnExactRibbonsAround.Pure := by
  intro p k _ _ _ hp
  have h := addedBy_bd isRib p k
  have hl : (Walk.ribOut p k).length ≤ 387420489 := by unfold Walk.ribOut; rw [List.length_map]; exact h.1
  have hb : shBulk (Walk.ribOut p k) ≤ 387420489 * 1048585 := by
    have : ∀ l : List (List Int), (∀ r ∈ l, r.length ≤ 9) → shBulk (l.map (fun q => (⟨q, p⟩ : Shp))) ≤ l.length * 1048585 := by
      intro l
      induction l with
      | nil => intro _; simp [shBulk]
      | cons q l ih =>
        intro hq
        have h1 := hq q (by simp)
        have h2 := ih (fun r hr => hq r (by simp [hr]))
        simp only [List.map_cons, shBulk, List.length_cons]
        omega
    have h3 := this _ h.2
    have h4 : (addedBy isRib p k).length * 1048585 ≤ 387420489 * 1048585 := Nat.mul_le_mul_right _ h.1
    exact Nat.le_trans h3 h4
  refine ⟨Walk.ribOut p k, ?_, ?_, by omega⟩
  · unfold Walk.spec_RibbonsAround.f
    rw [if_pos hp]
  · unfold Walk.impl_RibbonsAround.f
    rw [if_pos hp]
end Go.Proofs.Ytaghidcmefbjdaa.Pure
