/- The law on ExchangesOf comes to this: both sides compute the same words; no condition beyond the statement's own. -/
import Derived.Test.YthdoglkdcbghpaaF0
import Derived.Test.YthdoglkdcbghpaaQAll
import Derived.Test.YthdoglkdcbghpaaWalkFnExactExchangesOf
set_option linter.unusedVariables false
set_option linter.unusedSimpArgs false
namespace Go.Proofs.Ythdoglkdcbghpaa.Pure
open Go.RowKit Go.Proofs.Ythdoglkdcbghpaa.F Go.Proofs.YthdoglkdcbghpaaW.PrintWords Go.Proofs.YthdoglkdcbghpaaW.PrintLast Go.Proofs.YthdoglkdcbghpaaW.PrintMore Go.Proofs.Ythdoglkdcbghpaa.Q
theorem waysO_bd (x : List Int) : (waysO x).length ≤ 9 ∧ ∀ z ∈ waysO x, z.length ≤ 9 := by
  unfold waysO
  by_cases hw : isWord x = true
  · rw [if_pos hw]
    have h9 := (isWord_iff.1 hw).1
    have h1 : ∀ l : List (List Int), (ordOf l).length ≤ l.length := fun l => by
      induction l with
      | nil => exact Nat.le_refl _
      | cons a l ih =>
        have h2 : ∀ (w : List Int) (m : List (List Int)), (insW w m).length ≤ m.length + 1 := fun w m => by
          induction m with
          | nil => exact Nat.le_refl _
          | cons b m ih =>
            simp only [insW]
            split
            · simp
            · split
              · simp
              · simp only [List.length_cons]; omega
        have := h2 a (ordOf l)
        show (insW a (ordOf l)).length ≤ _
        simp only [List.length_cons]; omega
    have h3 : ∀ n : Nat, ((List.range n).flatMap (waysAt x)).length ≤ n := fun n => by
      induction n with
      | zero => exact Nat.le_refl _
      | succ n ih =>
        rw [List.range_succ, List.flatMap_append, List.length_append]
        have : (waysAt x n).length ≤ 1 := by unfold waysAt; rw [List.length_map]; exact parts3_length _ _ _
        simp only [List.flatMap_cons, List.flatMap_nil, List.append_nil]; omega
    have h4 := h1 (waysI x)
    have h5 : (waysI x).length ≤ x.length - 2 := h3 (x.length - 2)
    refine ⟨by omega, fun z hz => ?_⟩
    rw [waysI_len ((ordOf_mem _ _).1 hz)]; exact h9
  · rw [if_neg hw]; exact ⟨Nat.zero_le _, fun z hz => by cases hz⟩
theorem bulk_bd : ∀ {l : List (List Int)}, (∀ z ∈ l, z.length ≤ 9) → bulk l ≤ 9 * l.length
  | [], _ => Nat.le_refl _
  | r :: l, h => by
    have h1 := bulk_bd (l := l) (fun z hz => h z (List.mem_cons_of_mem _ hz))
    have h2 := h r List.mem_cons_self
    simp only [bulk, List.length_cons]; omega
theorem FnExactExchangesOf : Walk.FnExactExchangesOf.Pure := by
  intro x _ _ hx
  obtain ⟨h1, h2⟩ := waysO_bd x
  have h3 := bulk_bd h2
  refine ⟨waysO x, ?_, ?_, by omega, by omega⟩
  · unfold Walk.spec_ExchangesOf.f
    rw [if_pos hx]
  · unfold Walk.impl_ExchangesOf.f
    rw [if_pos hx]
end Go.Proofs.Ythdoglkdcbghpaa.Pure
