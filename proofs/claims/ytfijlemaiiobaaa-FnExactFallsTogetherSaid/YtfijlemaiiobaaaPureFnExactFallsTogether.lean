/- The law on FallsTogether, as a statement over lists of whole numbers and a number: it answers true at each; no condition beyond the statement's own. -/
import Derived.Test.YtfijlemaiiobaaaF0
import Derived.Test.YtfijlemaiiobaaaF7
import Derived.Test.YtfijlemaiiobaaaQBase
import Derived.Test.YtfijlemaiiobaaaQLawInts
import Derived.Test.YtfijlemaiiobaaaQFalls
import Derived.Test.YtfijlemaiiobaaaQFallsSpec
set_option linter.unusedVariables false
set_option linter.unusedSimpArgs false
namespace Go.Proofs.Ytfijlemaiiobaaa.Pure
open Go.RowKit Go.Proofs.Ytfijlemaiiobaaa.F Go.Proofs.YtfijlemaiiobaaaW.PrintWords Go.Proofs.YtfijlemaiiobaaaW.PrintLast Go.Proofs.YtfijlemaiiobaaaW.PrintMore Go.Proofs.Ytfijlemaiiobaaa.Q
theorem FnExactFallsTogether : laws_FnExactFallsTogether.Pure := by
  intro l a _ _ _ _
  refine Ev.rounds ?_
  unfold laws_FnExactFallsTogether.f
  refine ev_ite (fun _ => ev_val rfl) (fun hb => ?_)
  have hl : l.length ≤ 1048576 := by omega
  exact Ev.bind (toIntS_ev l hl) (Ev.bind (spec_FallsTogether_ev l a hl) (Ev.bind (toIntS_ev l hl) (Ev.bind (impl_FallsTogether_ev l a) (ev_pos rfl (Ev.bind (toIntS_ev l hl) (Ev.bind (eqIntS_same l hl) (ev_pos rfl (ev_val rfl))))))))
end Go.Proofs.Ytfijlemaiiobaaa.Pure
