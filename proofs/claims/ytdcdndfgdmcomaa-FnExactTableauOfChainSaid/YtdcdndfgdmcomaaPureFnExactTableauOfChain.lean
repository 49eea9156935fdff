/- The law on TableauOfChain comes to this: both sides compute the same tableau; no condition beyond the statement's own. -/
import Derived.Test.YtdcdndfgdmcomaaF0
import Derived.Test.YtdcdndfgdmcomaaF2
import Derived.Test.YtdcdndfgdmcomaaQAll
import Derived.Test.YtdcdndfgdmcomaaWalkFnExactTableauOfChain
set_option linter.unusedVariables false
set_option linter.unusedSimpArgs false
namespace Go.Proofs.Ytdcdndfgdmcomaa.Pure
open Go.RowKit Go.Proofs.Ytdcdndfgdmcomaa.F Go.Proofs.YtdcdndfgdmcomaaW.PrintWords Go.Proofs.YtdcdndfgdmcomaaW.PrintLast Go.Proofs.YtdcdndfgdmcomaaW.PrintMore Go.Proofs.Ytdcdndfgdmcomaa.Q
theorem bulk_le10 {m : List (List Int)} : ∀ (_ : ∀ r ∈ m, r.length ≤ 10), bulk m ≤ 10 * m.length := by
  induction m with
  | nil => intro _; simp [bulk]
  | cons r m ih =>
    intro h
    have h1 := h r (by simp)
    have h2 := ih (fun s hs => h s (by simp [hs]))
    simp only [bulk, List.length_cons]
    omega
theorem tabChain_bd (C : List (List Int)) (hrow : ∀ r ∈ C, r.length ≤ 1048576) : (tabChain C).1.length ≤ 1048576 ∧ (tabChain C).2.1.length ≤ 1048576 ∧ bulk (tabChain C).2.1 ≤ 10485760 := by
  unfold tabChain
  by_cases h : (1 ≤ C.length ∧ C.length ≤ 10) ∧ isPartition (rd_L1 C 0) = true ∧ chainOk C 1 = true
  · rw [if_pos h]
    obtain ⟨⟨h1, h2⟩, h3, _⟩ := h
    have hp := (isPartition_bd h3).2.1
    have hl : (chainRows C C.length).length ≤ 1048576 := by
      simp only [chainRows, List.length_map, List.length_range]
      exact hrow _ (rows_mem C (C.length - 1) (by omega))
    have hb := bulk_le10 (m := chainRows C C.length) (fun r hr => by obtain ⟨q, _, rfl⟩ := List.mem_map.1 hr; have := chainRow_le (C := C) C.length q; omega)
    refine ⟨?_, hl, ?_⟩
    · show (rd_L1 C 0).length ≤ _
      omega
    · show bulk (chainRows C C.length) ≤ _
      omega
  · rw [if_neg h]
    exact ⟨by simp, by simp, by simp [bulk]⟩
theorem FnExactTableauOfChain : Walk.FnExactTableauOfChain.Pure := by
  intro C _ _ _ hC
  have hrow : ∀ r ∈ C, r.length ≤ 1048576 := fun r hr => by have := bulk_mem hr; omega
  have hb := tabChain_bd C hrow
  have hs := spec_TableauOfChain_ev hrow
  obtain ⟨R1, R2, R3, hR⟩ : ∃ a b c, tabChain C = (a, b, c) := ⟨_, _, _, rfl⟩
  rw [hR] at hb hs
  have b1 : R1.length ≤ 1048576 := hb.1
  have b2 : R2.length ≤ 1048576 := hb.2.1
  have b3 : bulk R2 ≤ 10485760 := hb.2.2
  refine ⟨R1, R2, R3, hs, ?_, by omega, by omega, by omega⟩
  unfold Walk.impl_TableauOfChain.f
  rw [if_pos hC, hR]
end Go.Proofs.Ytdcdndfgdmcomaa.Pure
