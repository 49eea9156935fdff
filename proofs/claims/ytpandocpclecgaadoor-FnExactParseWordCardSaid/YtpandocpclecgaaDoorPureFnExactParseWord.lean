/- The law on ParseWord, as a statement over texts: it answers true at each; no condition beyond the statement's own. -/
import Derived.Test.YtpandocpclecgaaDoorF0
import Derived.Test.YtpandocpclecgaaDoorF3
import Derived.Test.YtpandocpclecgaaDoorQBase
import Derived.Test.YtpandocpclecgaaDoorQLawEq
import Derived.Test.YtpandocpclecgaaDoorQMark
import Derived.Test.YtpandocpclecgaaDoorQParseWord
set_option linter.unusedVariables false
set_option linter.unusedSimpArgs false
namespace Go.Proofs.YtpandocpclecgaaDoor.Pure
open Go.RowKit Go.Proofs.YtpandocpclecgaaDoor.F Go.Proofs.YtpandocpclecgaaDoorW.PrintWords Go.Proofs.YtpandocpclecgaaDoorW.PrintLast Go.Proofs.YtpandocpclecgaaDoorW.PrintMore Go.Proofs.YtpandocpclecgaaDoor.Q
theorem FnExactParseWord : laws_FnExactParseWord.Pure := by
  intro s _
  refine Ev.rounds ?_
  unfold laws_FnExactParseWord.f
  refine ev_ite (fun _ => ev_val rfl) (fun hb => ?_)
  have hs : s.size ≤ 1048576 := by omega
  have hp := parse_le s hs
  refine Ev.bind (spec_ParseWord_ev s hs) (Ev.bind (impl_ParseWord_ev s hs) (Ev.bind (eqIntS_same _ hp) (ev_pos rfl ?_)))
  refine Ev.step (fun k => by rw [laws_FnExactParseWord.j0]) ?_
  refine ev_neg (by simp) (Ev.bind (markIntS_ev _ 1 (by omega) (by omega)) (Ev.bind (heldIntS_ev 1 _ (by omega) (by omega)) (ev_neg (by omega) (ev_pos rfl ?_))))
  refine Ev.bind (impl_ParseWord_ev s hs) (Ev.bind (eqIntS_same _ hp) (ev_pos rfl ?_))
  refine Ev.step (fun k => by rw [laws_FnExactParseWord.j1]) ?_
  exact ev_neg (by simp) (Ev.bind (heldIntS_ev 1 _ (by omega) (by omega)) (ev_neg (by omega) (ev_pos rfl (ev_val rfl))))
end Go.Proofs.YtpandocpclecgaaDoor.Pure
