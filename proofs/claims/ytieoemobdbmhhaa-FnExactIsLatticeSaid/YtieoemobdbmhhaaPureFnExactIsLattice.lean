/- The law on IsLattice, as a statement over lists of whole numbers: it answers true at each list; no condition beyond the statement's own. -/
import Derived.Test.YtieoemobdbmhhaaF0
import Derived.Test.YtieoemobdbmhhaaF3
import Derived.Test.YtieoemobdbmhhaaQBase
import Derived.Test.YtieoemobdbmhhaaQLawInts
import Derived.Test.YtieoemobdbmhhaaQIsLattice
set_option linter.unusedVariables false
set_option linter.unusedSimpArgs false
namespace Go.Proofs.Ytieoemobdbmhhaa.Pure
open Go.RowKit Go.Proofs.Ytieoemobdbmhhaa.F Go.Proofs.YtieoemobdbmhhaaW.PrintWords Go.Proofs.YtieoemobdbmhhaaW.PrintLast Go.Proofs.YtieoemobdbmhhaaW.PrintMore Go.Proofs.Ytieoemobdbmhhaa.Q
theorem FnExactIsLattice : laws_FnExactIsLattice.Pure := by
  intro l _ _ _
  refine Ev.rounds ?_
  unfold laws_FnExactIsLattice.f
  refine ev_ite (fun _ => ev_val rfl) (fun hb => ?_)
  have hl : l.length ≤ 1048576 := by omega
  exact Ev.bind (toIntS_ev l hl) (Ev.bind (spec_IsLattice_ev l hl) (Ev.bind (toIntS_ev l hl) (ev_bindc (impl_IsLattice_eq l) (ev_neg (by simp) (Ev.bind (toIntS_ev l hl) (Ev.bind (eqIntS_same l hl) (ev_pos rfl (ev_val rfl))))))))
end Go.Proofs.Ytieoemobdbmhhaa.Pure
