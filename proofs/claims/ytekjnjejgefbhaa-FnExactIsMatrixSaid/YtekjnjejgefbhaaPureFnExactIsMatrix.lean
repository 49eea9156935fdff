/- The law on IsMatrix, as a statement over lists of lists of whole numbers: it answers true at each; no condition beyond the statement's own. -/
import Derived.Test.YtekjnjejgefbhaaF0
import Derived.Test.YtekjnjejgefbhaaF2
import Derived.Test.YtekjnjejgefbhaaQBase
import Derived.Test.YtekjnjejgefbhaaQLawInts
import Derived.Test.YtekjnjejgefbhaaQLawRows
import Derived.Test.YtekjnjejgefbhaaQMatrix
set_option linter.unusedVariables false
set_option linter.unusedSimpArgs false
namespace Go.Proofs.Ytekjnjejgefbhaa.Pure
open Go.RowKit Go.Proofs.Ytekjnjejgefbhaa.F Go.Proofs.YtekjnjejgefbhaaW.PrintWords Go.Proofs.YtekjnjejgefbhaaW.PrintLast Go.Proofs.YtekjnjejgefbhaaW.PrintMore Go.Proofs.Ytekjnjejgefbhaa.Q
theorem FnExactIsMatrix : laws_FnExactIsMatrix.Pure := by
  intro l hm hr _
  refine Ev.rounds ?_
  unfold laws_FnExactIsMatrix.f
  obtain ⟨z, hz, hp⟩ := szIntSS_ev l 1048576 (by omega) (by omega) hm hr
  refine Ev.bind hz (ev_ite (fun _ => ev_val rfl) (fun hb => ?_))
  have hl : l.length ≤ 1048576 := by omega
  have hrr : ∀ r ∈ l, r.length ≤ 1048576 := fun r h => by have := bulk_mem h; omega
  exact Ev.bind (toIntSS_ev l hl hrr) (Ev.bind (spec_IsMatrix_ev l hl hrr) (Ev.bind (toIntSS_ev l hl hrr) (Ev.bind (impl_IsMatrix_ev l) (ev_neg (by simp) (Ev.bind (toIntSS_ev l hl hrr) (Ev.bind (eqIntSS_same l hl hrr) (ev_pos rfl (ev_val rfl))))))))
end Go.Proofs.Ytekjnjejgefbhaa.Pure
