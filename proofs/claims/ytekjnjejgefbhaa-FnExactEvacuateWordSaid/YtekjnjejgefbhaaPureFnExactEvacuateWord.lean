/- The law on EvacuateWord, as a statement over lists of whole numbers and a number: it answers true at each; no condition beyond the statement's own. -/
import Derived.Test.YtekjnjejgefbhaaF0
import Derived.Test.YtekjnjejgefbhaaF8
import Derived.Test.YtekjnjejgefbhaaQBase
import Derived.Test.YtekjnjejgefbhaaQLawInts
import Derived.Test.YtekjnjejgefbhaaQMark
import Derived.Test.YtekjnjejgefbhaaQEvacuate
set_option linter.unusedVariables false
set_option linter.unusedSimpArgs false
namespace Go.Proofs.Ytekjnjejgefbhaa.Pure
open Go.RowKit Go.Proofs.Ytekjnjejgefbhaa.F Go.Proofs.YtekjnjejgefbhaaW.PrintWords Go.Proofs.YtekjnjejgefbhaaW.PrintLast Go.Proofs.YtekjnjejgefbhaaW.PrintMore Go.Proofs.Ytekjnjejgefbhaa.Q
theorem FnExactEvacuateWord : laws_FnExactEvacuateWord.Pure := by
  intro l n _ _ _ _
  refine Ev.rounds ?_
  unfold laws_FnExactEvacuateWord.f
  refine ev_ite (fun _ => ev_val rfl) (fun hb => ?_)
  have hl : l.length ≤ 1048576 := by omega
  have h9 := evacuateWord_le l n
  refine Ev.bind (toIntS_ev l hl) (Ev.bind (spec_EvacuateWord_ev l n hl) (Ev.bind (toIntS_ev l hl) (Ev.bind (impl_EvacuateWord_ev l n hl) (Ev.bind (eqIntS_same _ (by omega)) (ev_pos rfl ?_)))))
  refine Ev.step (fun k => by rw [laws_FnExactEvacuateWord.j0]) ?_
  refine ev_neg (by simp) (Ev.bind (toIntS_ev l hl) (Ev.bind (eqIntS_same l hl) (ev_pos rfl (Ev.bind (markIntS_ev l 1 hl (by omega)) (ev_neg (by simp; omega) (Ev.bind (eqIntS_same _ (by omega)) (ev_pos rfl ?_)))))))
  refine Ev.step (fun k => by rw [laws_FnExactEvacuateWord.j1]) ?_
  refine ev_neg (by simp) (Ev.bind (markIntS_ev _ 1 (by omega) (by omega)) (Ev.bind (heldIntS_ev 1 _ (by omega) (by omega)) (ev_neg (by omega) (ev_pos rfl ?_))))
  refine Ev.bind (toIntS_ev l hl) (Ev.bind (impl_EvacuateWord_ev l n hl) (Ev.bind (eqIntS_same _ (by omega)) (ev_pos rfl ?_)))
  refine Ev.step (fun k => by rw [laws_FnExactEvacuateWord.j2]) ?_
  exact ev_neg (by simp) (Ev.bind (heldIntS_ev 1 _ (by omega) (by omega)) (ev_neg (by omega) (ev_pos rfl (ev_val rfl))))
end Go.Proofs.Ytekjnjejgefbhaa.Pure
