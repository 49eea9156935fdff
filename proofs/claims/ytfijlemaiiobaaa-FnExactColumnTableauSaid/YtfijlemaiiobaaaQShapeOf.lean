/- ShapeOf, of the program and of the reference, are the same functions; condition: at most 2^20 elements in all. -/
import Derived.Test.YtfijlemaiiobaaaF0
import Derived.Test.YtfijlemaiiobaaaQBase
import Derived.Test.YtfijlemaiiobaaaQRows
import Derived.Test.YtfijlemaiiobaaaQPart
import Derived.Test.YtfijlemaiiobaaaQInside
set_option linter.unusedVariables false
set_option linter.unusedSimpArgs false
namespace Go.Proofs.Ytfijlemaiiobaaa.Q
open Go.RowKit Go.Proofs.Ytfijlemaiiobaaa.F Go.Proofs.YtfijlemaiiobaaaW.PrintWords Go.Proofs.YtfijlemaiiobaaaW.PrintLast Go.Proofs.YtfijlemaiiobaaaW.PrintMore
/-- how far row i reaches -/
def reachOf (n : List Int) (m : List (List Int)) (i : Nat) : Int := at0 n (i : Int) + ((rd_L1 m (i : Int)).length : Int)
/-- the outer partition: how long each row reaches -/
def outerOf (n : List Int) (m : List (List Int)) : List Int := (List.range m.length).map (reachOf n m)
def hasShape (n : List Int) (m : List (List Int)) : Bool := isPartition n && decide (n.length ≤ m.length) && isInside n (outerOf n m)
def shapeOf (n : List Int) (m : List (List Int)) : List Int × List Int × Bool := if hasShape n m then (outerOf n m, n, true) else ([], [], false)
theorem outerOf_length (n : List Int) (m : List (List Int)) : (outerOf n m).length = m.length := by simp [outerOf]
theorem outerOf_rd (n : List Int) (m : List (List Int)) (i : Nat) (h : i < m.length) : rd (outerOf n m) (i : Int) = at0 n (i : Int) + ((rd_L1 m (i : Int)).length : Int) := by
  rw [rd_eq _ i (by rw [outerOf_length]; exact h)]
  simp [outerOf, reachOf]
theorem at0_bd {n : List Int} (h : isPartition n = true) (i : Int) : 0 ≤ at0 n i ∧ at0 n i ≤ 9 := by
  have hb := (isPartition_bd h).2.2
  unfold at0
  split
  · rename_i hi
    obtain ⟨j, rfl⟩ : ∃ j : Nat, i = (j : Int) := ⟨i.toNat, by omega⟩
    have := hb _ (rd_mem n j (by omega))
    omega
  · omega
/-- what has a shape is small -/
theorem hasShape_bd {n : List Int} {m : List (List Int)} (h : hasShape n m = true) : isPartition n = true ∧ n.length ≤ m.length ∧ m.length ≤ 9 ∧ isPartition (outerOf n m) = true ∧ (∀ i, i < m.length → 1 ≤ at0 n (i : Int) + ((rd_L1 m (i : Int)).length : Int) ∧ at0 n (i : Int) + ((rd_L1 m (i : Int)).length : Int) ≤ 9) := by
  unfold hasShape at h
  simp only [Bool.and_eq_true, decide_eq_true_eq] at h
  obtain ⟨⟨h1, h2⟩, h3⟩ := h
  obtain ⟨_, h4, _, _⟩ := isInside_len h3
  obtain ⟨_, g2, g3⟩ := isPartition_bd h4
  rw [outerOf_length] at g2
  refine ⟨h1, h2, g2, h4, fun i hi => ?_⟩
  have := g3 _ (rd_mem (outerOf n m) i (by rw [outerOf_length]; exact hi))
  rw [outerOf_rd n m i hi] at this
  exact this
theorem range_snoc' (n : List Int) (m : List (List Int)) (i : Nat) : (List.range (i + 1)).map (reachOf n m) = (List.range i).map (reachOf n m) ++ [reachOf n m i] := by simp [List.range_succ]
end Go.Proofs.Ytfijlemaiiobaaa.Q
