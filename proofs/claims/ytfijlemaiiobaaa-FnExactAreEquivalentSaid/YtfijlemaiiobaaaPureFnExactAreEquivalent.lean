/- The law on AreEquivalent, as a statement over two lists of whole numbers: it answers true at each two; no condition beyond the statement's own. -/
import Derived.Test.YtfijlemaiiobaaaF0
import Derived.Test.YtfijlemaiiobaaaF7
import Derived.Test.YtfijlemaiiobaaaQBase
import Derived.Test.YtfijlemaiiobaaaQLawInts
import Derived.Test.YtfijlemaiiobaaaQAreEquivalent
set_option linter.unusedVariables false
set_option linter.unusedSimpArgs false
namespace Go.Proofs.Ytfijlemaiiobaaa.Pure
open Go.RowKit Go.Proofs.Ytfijlemaiiobaaa.F Go.Proofs.YtfijlemaiiobaaaW.PrintWords Go.Proofs.YtfijlemaiiobaaaW.PrintLast Go.Proofs.YtfijlemaiiobaaaW.PrintMore Go.Proofs.Ytfijlemaiiobaaa.Q
theorem FnExactAreEquivalent : laws_FnExactAreEquivalent.Pure := by
  intro v w _ _ _ _ _ _
  refine Ev.rounds ?_
  unfold laws_FnExactAreEquivalent.f
  refine ev_ite (fun _ => ev_val rfl) (fun hb => ev_ite (fun _ => ev_val rfl) (fun hc => ?_))
  have hv : v.length ≤ 1048576 := by omega
  have hw : w.length ≤ 1048576 := by omega
  refine Ev.bind (toIntS_ev v hv) (Ev.bind (toIntS_ev w hw) (Ev.bind (spec_AreEquivalent_ev v w hv hw) (Ev.bind (toIntS_ev v hv) (Ev.bind (toIntS_ev w hw) (Ev.bind (impl_AreEquivalent_ev v w) (ev_neg (by simp) ?_))))))
  exact Ev.bind (toIntS_ev v hv) (Ev.bind (eqIntS_same v hv) (ev_pos rfl (Ev.bind (toIntS_ev w hw) (Ev.bind (eqIntS_same w hw) (ev_pos rfl (ev_val rfl))))))
end Go.Proofs.Ytfijlemaiiobaaa.Pure
