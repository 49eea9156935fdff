/- The law on CountSlides, as a statement over tableaux: it answers true at each; no condition beyond the statement's own. -/
import Derived.Test.YtljjjdgnpnnmoaaF0
import Derived.Test.YtljjjdgnpnnmoaaF3
import Derived.Test.YtljjjdgnpnnmoaaF7
import Derived.Test.YtljjjdgnpnnmoaaF8
import Derived.Test.YtljjjdgnpnnmoaaQBase
import Derived.Test.YtljjjdgnpnnmoaaQLawTab
import Derived.Test.YtljjjdgnpnnmoaaQSum
import Derived.Test.YtljjjdgnpnnmoaaQSizeL2
import Derived.Test.YtljjjdgnpnnmoaaQTab
set_option linter.unusedVariables false
set_option linter.unusedSimpArgs false
namespace Go.Proofs.Ytljjjdgnpnnmoaa.Pure
open Go.RowKit Go.Proofs.Ytljjjdgnpnnmoaa.F Go.Proofs.YtljjjdgnpnnmoaaW.PrintWords Go.Proofs.YtljjjdgnpnnmoaaW.PrintLast Go.Proofs.YtljjjdgnpnnmoaaW.PrintMore Go.Proofs.Ytljjjdgnpnnmoaa.Q
theorem FnExactCountSlides : laws_FnExactCountSlides.Pure := by
  intro n m bn _ bm br _
  refine Ev.rounds ?_
  unfold laws_FnExactCountSlides.f
  obtain ⟨z, hz, hp⟩ := szTableau_ev n m bn bm br
  refine Ev.bind hz (ev_ite (fun _ => ev_val rfl) (fun hb => ?_))
  obtain ⟨hn, hm, hr⟩ := hp.resolve_left hb
  have key : isTab n m = true → n.length ≤ 1048576 ∧ ∀ x ∈ n, 0 ≤ x ∧ x ≤ 1000000 := fun h => by
    have h1 := (hasShape_bd (isTab_iff.1 h).1).1
    obtain ⟨_, g2, g3⟩ := isPartition_bd h1
    exact ⟨by omega, fun x hx => by have := g3 x hx; omega⟩
  have h1 : Ev (fun k => spec_CountSlides.f k n m) (if isTab n m then isum n else -1) := by
    unfold spec_CountSlides.f
    refine Ev.bind (spec_IsTableau_ev n m hn hm hr) (ev_ite (fun h => ?_) (fun h => ?_))
    · rw [if_pos h]; exact Ev.bind (spec_l2Size_ev n (key h).1 (key h).2) (ev_val rfl)
    · rw [if_neg h]; exact ev_val rfl
  have h2 : Ev (fun k => impl_CountSlides.f k n m) (if isTab n m then isum n else -1) := by
    unfold impl_CountSlides.f
    refine Ev.bind (impl_IsTableau_ev n m hn hm hr) (ev_ite (fun h => ?_) (fun h => ?_))
    · rw [if_pos h]; exact Ev.bind (impl_sum_ev n (key h).1 (key h).2) (ev_val rfl)
    · rw [if_neg h]; exact ev_val rfl
  exact Ev.bind (toTableau_ev n m hn hm hr) (Ev.bind h1 (Ev.bind (toTableau_ev n m hn hm hr) (Ev.bind h2 (ev_pos rfl (Ev.bind (toTableau_ev n m hn hm hr) (Ev.bind (eqTableau_same n m hn hm hr) (ev_pos rfl (ev_val rfl))))))))
end Go.Proofs.Ytljjjdgnpnnmoaa.Pure
