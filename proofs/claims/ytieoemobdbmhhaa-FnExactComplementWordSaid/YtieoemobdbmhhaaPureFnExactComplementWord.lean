/- The law on ComplementWord, as a statement over lists of whole numbers and a number: it answers true at each; no condition beyond the statement's own. -/
import Derived.Test.YtieoemobdbmhhaaF0
import Derived.Test.YtieoemobdbmhhaaF5
import Derived.Test.YtieoemobdbmhhaaQBase
import Derived.Test.YtieoemobdbmhhaaQLawInts
import Derived.Test.YtieoemobdbmhhaaQMark
import Derived.Test.YtieoemobdbmhhaaQComplement
set_option linter.unusedVariables false
set_option linter.unusedSimpArgs false
namespace Go.Proofs.Ytieoemobdbmhhaa.Pure
open Go.RowKit Go.Proofs.Ytieoemobdbmhhaa.F Go.Proofs.YtieoemobdbmhhaaW.PrintWords Go.Proofs.YtieoemobdbmhhaaW.PrintLast Go.Proofs.YtieoemobdbmhhaaW.PrintMore Go.Proofs.Ytieoemobdbmhhaa.Q
theorem FnExactComplementWord : laws_FnExactComplementWord.Pure := by
  intro l n _ _ _ _
  refine Ev.rounds ?_
  unfold laws_FnExactComplementWord.f
  refine ev_ite (fun _ => ev_val rfl) (fun hb => ?_)
  have hl : l.length ≤ 1048576 := by omega
  have h9 := complement_le l n
  refine Ev.bind (toIntS_ev l hl) (Ev.bind (spec_ComplementWord_ev l n hl) (Ev.bind (toIntS_ev l hl) (ev_bindc (impl_ComplementWord_eq l n) (Ev.bind (eqIntS_same _ (by omega)) (ev_pos rfl ?_)))))
  refine Ev.step (fun k => by rw [laws_FnExactComplementWord.j0]) ?_
  refine ev_neg (by simp) (Ev.bind (toIntS_ev l hl) (Ev.bind (eqIntS_same l hl) (ev_pos rfl (Ev.bind (markIntS_ev l 1 hl (by omega)) (ev_neg (by simp; omega) (Ev.bind (eqIntS_same _ (by omega)) (ev_pos rfl ?_)))))))
  refine Ev.step (fun k => by rw [laws_FnExactComplementWord.j1]) ?_
  refine ev_neg (by simp) (Ev.bind (markIntS_ev _ 1 (by omega) (by omega)) (Ev.bind (heldIntS_ev 1 _ (by omega) (by omega)) (ev_neg (by omega) (ev_pos rfl ?_))))
  refine Ev.bind (toIntS_ev l hl) (ev_bindc (impl_ComplementWord_eq l n) (Ev.bind (eqIntS_same _ (by omega)) (ev_pos rfl ?_)))
  refine Ev.step (fun k => by rw [laws_FnExactComplementWord.j2]) ?_
  exact ev_neg (by simp) (Ev.bind (heldIntS_ev 1 _ (by omega) (by omega)) (ev_neg (by omega) (ev_pos rfl (ev_val rfl))))
end Go.Proofs.Ytieoemobdbmhhaa.Pure
