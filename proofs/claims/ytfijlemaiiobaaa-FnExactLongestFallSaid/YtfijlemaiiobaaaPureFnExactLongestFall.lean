/- The law on LongestFall, as a statement over lists of whole numbers: it answers true at each list; no condition beyond the statement's own. -/
import Derived.Test.YtfijlemaiiobaaaF0
import Derived.Test.YtfijlemaiiobaaaF6
import Derived.Test.YtfijlemaiiobaaaQBase
import Derived.Test.YtfijlemaiiobaaaQLawInts
import Derived.Test.YtfijlemaiiobaaaQLongestFall
set_option linter.unusedVariables false
set_option linter.unusedSimpArgs false
namespace Go.Proofs.Ytfijlemaiiobaaa.Pure
open Go.RowKit Go.Proofs.Ytfijlemaiiobaaa.F Go.Proofs.YtfijlemaiiobaaaW.PrintWords Go.Proofs.YtfijlemaiiobaaaW.PrintLast Go.Proofs.YtfijlemaiiobaaaW.PrintMore Go.Proofs.Ytfijlemaiiobaaa.Q
theorem FnExactLongestFall : laws_FnExactLongestFall.Pure := by
  intro l _ _ _
  refine Ev.rounds ?_
  unfold laws_FnExactLongestFall.f
  refine ev_ite (fun _ => ev_val rfl) (fun hb => ?_)
  have hl : l.length ≤ 1048576 := by omega
  exact Ev.bind (toIntS_ev l hl) (Ev.bind (spec_LongestFall_ev l hl) (Ev.bind (toIntS_ev l hl) (Ev.bind (impl_LongestFall_ev l) (ev_pos rfl (Ev.bind (toIntS_ev l hl) (Ev.bind (eqIntS_same l hl) (ev_pos rfl (ev_val rfl))))))))
end Go.Proofs.Ytfijlemaiiobaaa.Pure
