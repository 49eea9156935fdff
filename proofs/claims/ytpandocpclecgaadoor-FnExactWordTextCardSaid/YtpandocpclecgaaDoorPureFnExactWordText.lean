/- The law on WordText, as a statement over lists of whole numbers: it answers true at each list; no condition beyond the statement's own. -/
import Derived.Test.YtpandocpclecgaaDoorF0
import Derived.Test.YtpandocpclecgaaDoorF2
import Derived.Test.YtpandocpclecgaaDoorQBase
import Derived.Test.YtpandocpclecgaaDoorQLawInts
import Derived.Test.YtpandocpclecgaaDoorQText
set_option linter.unusedVariables false
set_option linter.unusedSimpArgs false
namespace Go.Proofs.YtpandocpclecgaaDoor.Pure
open Go.RowKit Go.Proofs.YtpandocpclecgaaDoor.F Go.Proofs.YtpandocpclecgaaDoorW.PrintWords Go.Proofs.YtpandocpclecgaaDoorW.PrintLast Go.Proofs.YtpandocpclecgaaDoorW.PrintMore Go.Proofs.YtpandocpclecgaaDoor.Q
theorem FnExactWordText : laws_FnExactWordText.Pure := by
  intro l _ _ _
  refine Ev.rounds ?_
  unfold laws_FnExactWordText.f
  refine ev_ite (fun _ => ev_val rfl) (fun hb => ?_)
  have hl : l.length ≤ 1048576 := by omega
  exact Ev.bind (toIntS_ev l hl) (Ev.bind (spec_WordText_ev l hl) (Ev.bind (toIntS_ev l hl) (Ev.bind (impl_WordText_ev l) (ev_pos rfl (Ev.bind (toIntS_ev l hl) (Ev.bind (eqIntS_same l hl) (ev_pos rfl (ev_val rfl))))))))
end Go.Proofs.YtpandocpclecgaaDoor.Pure
