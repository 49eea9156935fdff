/- slices.Index and slices.Contains on a list of whole numbers; condition: at most 2^20 elements. -/
import Derived.Test.YtekjnjejgefbhaaF0
import Derived.Test.YtekjnjejgefbhaaF3
import Derived.Test.YtekjnjejgefbhaaF4
import Derived.Test.YtekjnjejgefbhaaQBase
set_option linter.unusedVariables false
set_option linter.unusedSimpArgs false
namespace Go.Proofs.Ytekjnjejgefbhaa.Q
open Go.RowKit Go.Proofs.Ytekjnjejgefbhaa.F Go.Proofs.YtekjnjejgefbhaaW.PrintWords Go.Proofs.YtekjnjejgefbhaaW.PrintLast Go.Proofs.YtekjnjejgefbhaaW.PrintMore
theorem slices_Index_l0 (l : List Int) (x : Int) (hl : l.length ≤ 1048576) : ∀ i, i ≤ l.length → ∃ v, Ev (fun k => slices_Index_int_int.l0 k l x (l.length : Int) (i : Int)) v ∧ (0 ≤ v ↔ x ∈ l.drop i) := by
  refine downTo l.length ?_ ?_
  · refine ⟨-1, ?_, by simp⟩
    refine Ev.step (fun k => by rw [slices_Index_int_int.l0]) ?_
    exact ev_neg (by omega) (ev_val rfl)
  · rintro i hi ⟨v, hv, hm⟩
    by_cases hx : x = rd l (i : Int)
    · refine ⟨(i : Int), ?_, by rw [drop_rd l i hi, ← hx]; simp⟩
      refine Ev.step (fun k => by rw [slices_Index_int_int.l0]) ?_
      exact ev_pos (by omega) (ev_pos (by omega) (ev_pos (by omega) (ev_pos hx (ev_val rfl))))
    · refine ⟨v, ?_, by rw [hm, drop_rd l i hi, List.mem_cons]; simp [hx]⟩
      refine Ev.step (fun k => by rw [slices_Index_int_int.l0]) ?_
      refine ev_pos (by omega) (ev_pos (by omega) (ev_pos (by omega) (ev_neg hx ?_)))
      rw [wrap_succ (by omega)]; exact hv
theorem slices_Contains_ev (l : List Int) (x : Int) (hl : l.length ≤ 1048576) : Ev (fun k => slices_Contains_int_int.f k l x) (decide (x ∈ l)) := by
  unfold slices_Contains_int_int.f
  obtain ⟨v, hv, hm⟩ := slices_Index_l0 l x hl 0 (by omega)
  refine Ev.bind (f := fun _ t => some (decide (t ≥ 0))) hv (ev_val ?_)
  rw [List.drop_zero] at hm
  by_cases h : x ∈ l
  · rw [decide_eq_true h, decide_eq_true (hm.2 h)]
  · rw [decide_eq_false h, decide_eq_false (fun h' => h (hm.1 h'))]
end Go.Proofs.Ytekjnjejgefbhaa.Q
