/- areOnce of the program: each number from 1 to the length occurs; condition: at most 2^20 elements. -/
import Derived.Test.YtekjnjejgefbhaaF0
import Derived.Test.YtekjnjejgefbhaaF4
import Derived.Test.YtekjnjejgefbhaaQBase
import Derived.Test.YtekjnjejgefbhaaQContains
set_option linter.unusedVariables false
set_option linter.unusedSimpArgs false
namespace Go.Proofs.Ytekjnjejgefbhaa.Q
open Go.RowKit Go.Proofs.Ytekjnjejgefbhaa.F Go.Proofs.YtekjnjejgefbhaaW.PrintWords Go.Proofs.YtekjnjejgefbhaaW.PrintLast Go.Proofs.YtekjnjejgefbhaaW.PrintMore
def areOnce (l : List Int) : Bool := (List.range l.length).all (fun v => decide (((v + 1 : Nat) : Int) ∈ l))
theorem areOnce_iff {l : List Int} : areOnce l = true ↔ ∀ v : Nat, 1 ≤ v → v ≤ l.length → (v : Int) ∈ l := by
  unfold areOnce
  rw [List.all_eq_true]
  constructor
  · intro h v a b
    have := h (v - 1) (by rw [List.mem_range]; omega)
    rw [decide_eq_true_eq, show v - 1 + 1 = v by omega] at this
    exact this
  · intro h v hv
    rw [List.mem_range] at hv
    rw [decide_eq_true_eq]
    exact h (v + 1) (by omega) (by omega)
theorem impl_areOnce_ev (l : List Int) (hl : l.length ≤ 1048576) : Ev (fun k => impl_areOnce.f k l) (areOnce l) := by
  have key : ∀ i, i ≤ l.length → ∃ b, Ev (fun k => impl_areOnce.l0 k l ((i + 1 : Nat) : Int)) b ∧ (b = true ↔ ∀ v : Nat, i < v → v ≤ l.length → (v : Int) ∈ l) := by
    refine downTo l.length ?_ ?_
    · refine ⟨true, ?_, by simp; intro v a b; omega⟩
      refine Ev.step (fun k => by rw [impl_areOnce.l0]) ?_
      exact ev_neg (by omega) (ev_val rfl)
    · rintro i hi ⟨b, hb, ih⟩
      by_cases h : ((i + 1 : Nat) : Int) ∈ l
      · refine ⟨b, ?_, ?_⟩
        · refine Ev.step (fun k => by rw [impl_areOnce.l0]) ?_
          refine ev_pos (by omega) (Ev.bind (slices_Contains_ev l _ hl) (ev_pos (decide_eq_true h) ?_))
          rw [wrap_succ (by omega)]
          exact hb
        · rw [ih]
          constructor
          · intro g v a b
            by_cases e : v = i + 1
            · subst e; exact h
            · exact g v (by omega) b
          · intro g v a b; exact g v (by omega) b
      · refine ⟨false, ?_, by simp; exact ⟨i + 1, by omega, by omega, h⟩⟩
        refine Ev.step (fun k => by rw [impl_areOnce.l0]) ?_
        exact ev_pos (by omega) (Ev.bind (slices_Contains_ev l _ hl) (ev_neg (by simpa using h) (ev_val rfl)))
  unfold impl_areOnce.f
  obtain ⟨b, hb, ih⟩ := key 0 (by omega)
  refine ev_eq hb ?_
  rw [Bool.eq_iff_iff, ih, areOnce_iff]
  exact Iff.rfl
end Go.Proofs.Ytekjnjejgefbhaa.Q
