/- The law on IsInvolution, as a statement over lists of whole numbers: it answers true at each list; no condition beyond the statement's own. -/
import Derived.Test.YtekjnjejgefbhaaF0
import Derived.Test.YtekjnjejgefbhaaF5
import Derived.Test.YtekjnjejgefbhaaF6
import Derived.Test.YtekjnjejgefbhaaQBase
import Derived.Test.YtekjnjejgefbhaaQLawInts
import Derived.Test.YtekjnjejgefbhaaQInverse
import Derived.Test.YtekjnjejgefbhaaQSEqual
set_option linter.unusedVariables false
set_option linter.unusedSimpArgs false
namespace Go.Proofs.Ytekjnjejgefbhaa.Pure
open Go.RowKit Go.Proofs.Ytekjnjejgefbhaa.F Go.Proofs.YtekjnjejgefbhaaW.PrintWords Go.Proofs.YtekjnjejgefbhaaW.PrintLast Go.Proofs.YtekjnjejgefbhaaW.PrintMore Go.Proofs.Ytekjnjejgefbhaa.Q
theorem FnExactIsInvolution : laws_FnExactIsInvolution.Pure := by
  intro l _ _ _
  refine Ev.rounds ?_
  unfold laws_FnExactIsInvolution.f
  refine ev_ite (fun _ => ev_val rfl) (fun hb => ?_)
  have hl : l.length ≤ 1048576 := by omega
  have h9 := inverse_le l
  have h1 : Ev (fun k => spec_IsInvolution.f k l) ((inverse l).2 && decide ((inverse l).1 = l)) := by
    unfold spec_IsInvolution.f
    refine Ev.bind (spec_InverseOf_ev l hl) (ev_ite (fun h => ?_) (fun h => ev_val ?_))
    · rw [h, Bool.true_and]
      exact Ev.bind (spec_l2Same_ev _ l (by omega)) (ev_val rfl)
    · simp only [Bool.not_eq_true] at h; rw [h]; rfl
  have h2 : Ev (fun k => impl_IsInvolution.f k l) ((inverse l).2 && decide ((inverse l).1 = l)) := by
    unfold impl_IsInvolution.f
    refine Ev.bind (impl_InverseOf_ev l hl) (ev_ite (fun h => ?_) (fun h => ev_val ?_))
    · rw [h, Bool.true_and]
      exact Ev.bind (slices_Equal_ev _ l (by omega)) (ev_val rfl)
    · simp only [Bool.not_eq_true] at h; rw [h]; rfl
  exact Ev.bind (toIntS_ev l hl) (Ev.bind h1 (Ev.bind (toIntS_ev l hl) (Ev.bind h2 (ev_neg (by simp) (Ev.bind (toIntS_ev l hl) (Ev.bind (eqIntS_same l hl) (ev_pos rfl (ev_val rfl))))))))
end Go.Proofs.Ytekjnjejgefbhaa.Pure
