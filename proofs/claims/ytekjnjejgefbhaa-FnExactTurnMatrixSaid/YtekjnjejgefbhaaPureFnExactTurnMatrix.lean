/- The law on TurnMatrix comes to this: both sides compute the same matrix; no condition beyond the statement's own. -/
import Derived.Test.YtekjnjejgefbhaaF0
import Derived.Test.YtekjnjejgefbhaaF2
import Derived.Test.YtekjnjejgefbhaaF3
import Derived.Test.YtekjnjejgefbhaaQBase
import Derived.Test.YtekjnjejgefbhaaQRows
import Derived.Test.YtekjnjejgefbhaaQMatrix
import Derived.Test.YtekjnjejgefbhaaQTurn
import Derived.Test.YtekjnjejgefbhaaWalkFnExactTurnMatrix
set_option linter.unusedVariables false
set_option linter.unusedSimpArgs false
namespace Go.Proofs.Ytekjnjejgefbhaa.Pure
open Go.RowKit Go.Proofs.Ytekjnjejgefbhaa.F Go.Proofs.YtekjnjejgefbhaaW.PrintWords Go.Proofs.YtekjnjejgefbhaaW.PrintLast Go.Proofs.YtekjnjejgefbhaaW.PrintMore Go.Proofs.Ytekjnjejgefbhaa.Q
theorem FnExactTurnMatrix : Walk.FnExactTurnMatrix.Pure := by
  intro l _ _ _ hs
  have hrr : ∀ r ∈ l, r.length ≤ 1048576 := fun r h => by have := bulk_mem h; omega
  by_cases h : IsMat l ∧ l ≠ [] ∧ l.getD 0 [] ≠ []
  · refine ⟨cols l, true, ev_eq (spec_Turn_ev l hs.1 hrr) (if_pos h), ev_eq (impl_Turn_ev l) (if_pos h), ?_, ?_⟩
    · have := hrr _ (rows_mem l 0 (List.length_pos_iff.2 h.2.1))
      rw [rows_nat] at this
      have e : (cols l).length = (l.getD 0 []).length := by simp [cols]
      omega
    · have h9 := h.1.1
      have := hrr _ (rows_mem l 0 (List.length_pos_iff.2 h.2.1))
      rw [rows_nat] at this
      have := bulk_le (l := cols l) (b := 9) (by
        intro r hr
        obtain ⟨j, _, rfl⟩ := List.mem_map.1 hr
        simpa using h9)
      have e : (cols l).length = (l.getD 0 []).length := by simp [cols]
      rw [e] at this
      omega
  · exact ⟨[], false, ev_eq (spec_Turn_ev l hs.1 hrr) (if_neg h), ev_eq (impl_Turn_ev l) (if_neg h), by simp, by simp [bulk]⟩
end Go.Proofs.Ytekjnjejgefbhaa.Pure
