/- The law on ExchangePath comes to this: both sides compute the same path; no condition beyond the statement's own. -/
import Derived.Test.YthdoglkdcbghpaaDoorF0
import Derived.Test.YthdoglkdcbghpaaDoorQAllB
import Derived.Test.YthdoglkdcbghpaaDoorWalkFnExactExchangePath
set_option linter.unusedVariables false
set_option linter.unusedSimpArgs false
namespace Go.Proofs.YthdoglkdcbghpaaDoor.Pure
open Go.RowKit Go.Proofs.YthdoglkdcbghpaaDoor.F Go.Proofs.YthdoglkdcbghpaaDoorW.PrintWords Go.Proofs.YthdoglkdcbghpaaDoorW.PrintLast Go.Proofs.YthdoglkdcbghpaaDoorW.PrintMore Go.Proofs.YthdoglkdcbghpaaDoor.Q
theorem stepW_len {s y : List Int} {d : Nat} : (stepW s y d).length ≤ 9 := by
  unfold stepW
  rw [List.getD_eq_getElem?_getD]
  cases h : (waysO y)[stepI s y d]? with
  | none => exact Nat.zero_le _
  | some z => exact (waysO_bd y).2 z (List.mem_of_getElem? h)
theorem pathW_le (s : List Int) : ∀ (d : Nat) (y : List Int), y.length ≤ 9 → ∀ z ∈ pathW s d y, z.length ≤ 9
  | 0, y, hy, z, hz => by
    have : z = y := by simpa [pathW] using hz
    rw [this]; exact hy
  | d + 1, y, hy, z, hz => by
    rcases List.mem_cons.1 (show z ∈ y :: pathW s d (stepW s y d) from hz) with e | e
    · rw [e]; exact hy
    · exact pathW_le s d _ stepW_len z e
theorem pathF_bd (x s : List Int) : (pathF x s).length ≤ 362881 ∧ ∀ z ∈ pathF x s, z.length ≤ 9 := by
  unfold pathF
  by_cases h : isWord x = true ∧ isWord s = true ∧ x.length ≤ 7 ∧ x ∈ (reachW s).1
  · rw [if_pos h]
    have hs9 := (isWord_iff.1 h.2.1).1
    have hb := far_bd (pathD_eq hs9 h.2.2.2) hs9
    refine ⟨?_, pathW_le s _ _ (by have := h.2.2.1; omega)⟩
    rw [pathW_len]
    omega
  · rw [if_neg h]; exact ⟨Nat.zero_le _, fun z hz => by cases hz⟩
theorem FnExactExchangePath : Walk.FnExactExchangePath.Pure := by
  intro x s _ _ _ _ hx hs
  obtain ⟨h1, h2⟩ := pathF_bd x s
  have h3 := bulk_le9 h2
  refine ⟨pathF x s, pathB x s, ?_, ?_, by omega, by omega⟩
  · unfold Walk.spec_ExchangePath.f
    rw [if_pos ⟨hx, hs⟩]
  · unfold Walk.impl_ExchangePath.f
    rw [if_pos ⟨hx, hs⟩]
end Go.Proofs.YthdoglkdcbghpaaDoor.Pure
