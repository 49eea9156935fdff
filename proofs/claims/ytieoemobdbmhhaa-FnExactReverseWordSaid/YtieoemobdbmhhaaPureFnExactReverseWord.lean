/- The law on ReverseWord, as a statement over lists of whole numbers: it answers true at each list; no condition beyond the statement's own. -/
import Derived.Test.YtieoemobdbmhhaaF0
import Derived.Test.YtieoemobdbmhhaaF6
import Derived.Test.YtieoemobdbmhhaaQBase
import Derived.Test.YtieoemobdbmhhaaQLawInts
import Derived.Test.YtieoemobdbmhhaaQMark
import Derived.Test.YtieoemobdbmhhaaQReverse
set_option linter.unusedVariables false
set_option linter.unusedSimpArgs false
namespace Go.Proofs.Ytieoemobdbmhhaa.Pure
open Go.RowKit Go.Proofs.Ytieoemobdbmhhaa.F Go.Proofs.YtieoemobdbmhhaaW.PrintWords Go.Proofs.YtieoemobdbmhhaaW.PrintLast Go.Proofs.YtieoemobdbmhhaaW.PrintMore Go.Proofs.Ytieoemobdbmhhaa.Q
theorem FnExactReverseWord : laws_FnExactReverseWord.Pure := by
  intro l _ _ _
  refine Ev.rounds ?_
  unfold laws_FnExactReverseWord.f
  refine ev_ite (fun _ => ev_val rfl) (fun hb => ?_)
  have hl : l.length ≤ 1048576 := by omega
  have h9 := reverseWord_le l
  refine Ev.bind (toIntS_ev l hl) (Ev.bind (spec_ReverseWord_ev l hl) (Ev.bind (toIntS_ev l hl) (Ev.bind (impl_ReverseWord_ev l hl) (Ev.bind (eqIntS_same _ (by omega)) (ev_pos rfl ?_)))))
  refine Ev.bind (toIntS_ev l hl) (Ev.bind (eqIntS_same l hl) (ev_pos rfl (Ev.bind (markIntS_ev l 1 hl (by omega)) (ev_neg (by simp; omega) (Ev.bind (eqIntS_same _ (by omega)) ?_)))))
  refine Ev.step (fun k => by rw [laws_FnExactReverseWord.j0]) ?_
  refine ev_neg (by simp) (Ev.bind (markIntS_ev _ 1 (by omega) (by omega)) (Ev.bind (heldIntS_ev 1 _ (by omega) (by omega)) (ev_neg (by omega) (ev_pos rfl ?_))))
  refine Ev.bind (toIntS_ev l hl) (Ev.bind (impl_ReverseWord_ev l hl) (Ev.bind (eqIntS_same _ (by omega)) (ev_pos rfl ?_)))
  exact Ev.bind (heldIntS_ev 1 _ (by omega) (by omega)) (ev_neg (by omega) (ev_pos rfl (ev_val rfl)))
end Go.Proofs.Ytieoemobdbmhhaa.Pure
