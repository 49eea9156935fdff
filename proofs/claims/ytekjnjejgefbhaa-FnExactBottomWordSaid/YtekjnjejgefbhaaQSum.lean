/- The sum of a list of whole numbers, by the program's sum; condition: at most 2^20 numbers from 0 to 1,000,000. -/
import Derived.Test.YtekjnjejgefbhaaF0
import Derived.Test.YtekjnjejgefbhaaF3
import Derived.Test.YtekjnjejgefbhaaQBase
import Derived.Test.YtekjnjejgefbhaaQRows
set_option linter.unusedVariables false
set_option linter.unusedSimpArgs false
namespace Go.Proofs.Ytekjnjejgefbhaa.Q
open Go.RowKit Go.Proofs.Ytekjnjejgefbhaa.F Go.Proofs.YtekjnjejgefbhaaW.PrintWords Go.Proofs.YtekjnjejgefbhaaW.PrintLast Go.Proofs.YtekjnjejgefbhaaW.PrintMore
theorem impl_sum_ev (l : List Int) (hl : l.length ≤ 1048576) (h : ∀ x ∈ l, 0 ≤ x ∧ x ≤ 1000000) : Ev (fun k => impl_sum.f k l) (isum l) := by
  unfold impl_sum.f
  have key : ∀ i, i ≤ l.length → ∀ s : Int, 0 ≤ s → s ≤ 1000000 * i → Ev (fun k => impl_sum.l0 k s l (l.length : Int) (i : Int)) (s + isum (l.drop i)) := by
    refine downTo l.length ?_ ?_
    · intro s a b
      refine Ev.step (fun k => by rw [impl_sum.l0]) ?_
      exact ev_neg (by omega) (ev_val (by rw [List.drop_length]; simp [isum]))
    · intro i hi ih s a b
      have hx := h _ (rd_mem l i hi)
      refine Ev.step (fun k => by rw [impl_sum.l0]) ?_
      refine ev_pos (by omega) (ev_pos (by omega) (ev_pos (by omega) ?_))
      rw [wrap_succ (by omega), wrap_id (by omega) (by omega)]
      refine ev_eq (ih _ (by omega) (by omega)) ?_
      rw [drop_rd l i hi]
      simp only [isum]; omega
  have := key 0 (by omega) 0 (by omega) (by omega)
  simpa using this
end Go.Proofs.Ytekjnjejgefbhaa.Q
