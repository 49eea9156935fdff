/- IsInside and IsShape, of the program and of the reference, are the same functions; condition: at most 2^20 elements. -/
import Derived.Test.YtfijlemaiiobaaaF0
import Derived.Test.YtfijlemaiiobaaaQBase
import Derived.Test.YtfijlemaiiobaaaQPart
set_option linter.unusedVariables false
set_option linter.unusedSimpArgs false
namespace Go.Proofs.Ytfijlemaiiobaaa.Q
open Go.RowKit Go.Proofs.Ytfijlemaiiobaaa.F Go.Proofs.YtfijlemaiiobaaaW.PrintWords Go.Proofs.YtfijlemaiiobaaaW.PrintLast Go.Proofs.YtfijlemaiiobaaaW.PrintMore
def isInside (q p : List Int) : Bool := isPartition q && isPartition p && (List.range q.length).all (fun i => decide (rd q (i : Int) ≤ at0 p (i : Int)))
theorem inside_all (q p : List Int) (i : Nat) : ((List.range q.length).all (fun i => decide (rd q (i : Int) ≤ at0 p (i : Int))) = true) ↔ ∀ j, j < q.length → rd q (j : Int) ≤ at0 p (j : Int) := by
  rw [List.all_eq_true]
  constructor
  · intro h j hj; have := h j (List.mem_range.2 hj); simpa using this
  · intro h j hj; simpa using h j (List.mem_range.1 hj)
theorem isInside_len {q p : List Int} (h : isInside q p = true) : isPartition q = true ∧ isPartition p = true ∧ q.length ≤ p.length ∧ ∀ j, j < q.length → rd q (j : Int) ≤ rd p (j : Int) := by
  unfold isInside at h
  simp only [Bool.and_eq_true] at h
  obtain ⟨⟨h1, h2⟩, h3⟩ := h
  rw [inside_all q p 0] at h3
  have hb := (isPartition_bd h1).2.2
  have hlen : q.length ≤ p.length := by
    apply Classical.byContradiction
    intro hn
    have := h3 p.length (by omega)
    rw [at0_out _ _ (.inr (by omega))] at this
    have := (hb _ (rd_mem q p.length (by omega))).1
    omega
  refine ⟨h1, h2, hlen, fun j hj => ?_⟩
  have := h3 j hj
  rwa [at0_nat p j (by omega)] at this
end Go.Proofs.Ytfijlemaiiobaaa.Q
