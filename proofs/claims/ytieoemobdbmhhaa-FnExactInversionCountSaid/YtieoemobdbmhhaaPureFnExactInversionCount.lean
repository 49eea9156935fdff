/- The law on InversionCount, as a statement over lists of whole numbers: it answers true at each list; no condition beyond the statement's own. -/
import Derived.Test.YtieoemobdbmhhaaF2
import Derived.Test.YtieoemobdbmhhaaQBase
import Derived.Test.YtieoemobdbmhhaaQLawInts
import Derived.Test.YtieoemobdbmhhaaQInversionCount
set_option linter.unusedVariables false
set_option linter.unusedSimpArgs false
namespace Go.Proofs.Ytieoemobdbmhhaa.Pure
open Go.RowKit Go.Proofs.Ytieoemobdbmhhaa.F Go.Proofs.YtieoemobdbmhhaaW.PrintWords Go.Proofs.YtieoemobdbmhhaaW.PrintLast Go.Proofs.YtieoemobdbmhhaaW.PrintMore Go.Proofs.Ytieoemobdbmhhaa.Q
theorem FnExactInversionCount : laws_FnExactInversionCount.Pure := by
  intro l _ _ _
  refine Ev.rounds ?_
  unfold laws_FnExactInversionCount.f
  refine ev_ite (fun _ => ev_val rfl) (fun hb => ?_)
  have hl : l.length ≤ 1048576 := by omega
  exact Ev.bind (toIntS_ev l hl) (Ev.bind (spec_InversionCount_ev l hl) (Ev.bind (toIntS_ev l hl) (Ev.bind (impl_InversionCount_ev l hl) (ev_pos rfl (Ev.bind (toIntS_ev l hl) (Ev.bind (eqIntS_same l hl) (ev_pos rfl (ev_val rfl))))))))
end Go.Proofs.Ytieoemobdbmhhaa.Pure
