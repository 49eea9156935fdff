/- The law on InverseOf, as a statement over lists of whole numbers: it answers true at each list; no condition beyond the statement's own. -/
import Derived.Test.YtekjnjejgefbhaaF0
import Derived.Test.YtekjnjejgefbhaaF5
import Derived.Test.YtekjnjejgefbhaaQBase
import Derived.Test.YtekjnjejgefbhaaQLawInts
import Derived.Test.YtekjnjejgefbhaaQMark
import Derived.Test.YtekjnjejgefbhaaQInverse
set_option linter.unusedVariables false
set_option linter.unusedSimpArgs false
namespace Go.Proofs.Ytekjnjejgefbhaa.Pure
open Go.RowKit Go.Proofs.Ytekjnjejgefbhaa.F Go.Proofs.YtekjnjejgefbhaaW.PrintWords Go.Proofs.YtekjnjejgefbhaaW.PrintLast Go.Proofs.YtekjnjejgefbhaaW.PrintMore Go.Proofs.Ytekjnjejgefbhaa.Q
theorem FnExactInverseOf : laws_FnExactInverseOf.Pure := by
  intro l _ _ _
  refine Ev.rounds ?_
  unfold laws_FnExactInverseOf.f
  refine ev_ite (fun _ => ev_val rfl) (fun hb => ?_)
  have hl : l.length ≤ 1048576 := by omega
  have h9 := inverse_le l
  refine Ev.bind (toIntS_ev l hl) (Ev.bind (spec_InverseOf_ev l hl) (Ev.bind (toIntS_ev l hl) (Ev.bind (impl_InverseOf_ev l hl) (Ev.bind (eqIntS_same _ (by omega)) (ev_pos rfl ?_)))))
  refine Ev.step (fun k => by rw [laws_FnExactInverseOf.j0]) ?_
  refine ev_neg (by simp) (Ev.bind (toIntS_ev l hl) (Ev.bind (eqIntS_same l hl) (ev_pos rfl (Ev.bind (markIntS_ev l 1 hl (by omega)) (ev_neg (by simp; omega) (Ev.bind (eqIntS_same _ (by omega)) (ev_pos rfl ?_)))))))
  refine Ev.step (fun k => by rw [laws_FnExactInverseOf.j1]) ?_
  refine ev_neg (by simp) (Ev.bind (markIntS_ev _ 1 (by omega) (by omega)) (Ev.bind (heldIntS_ev 1 _ (by omega) (by omega)) (ev_neg (by omega) (ev_pos rfl ?_))))
  refine Ev.bind (toIntS_ev l hl) (Ev.bind (impl_InverseOf_ev l hl) (Ev.bind (eqIntS_same _ (by omega)) (ev_pos rfl ?_)))
  refine Ev.step (fun k => by rw [laws_FnExactInverseOf.j2]) ?_
  exact ev_neg (by simp) (Ev.bind (heldIntS_ev 1 _ (by omega) (by omega)) (ev_neg (by omega) (ev_pos rfl (ev_val rfl))))
end Go.Proofs.Ytekjnjejgefbhaa.Pure
