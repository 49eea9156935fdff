/- ShapeOfWord, of the program and of the reference: the lengths of the rows; condition: at most 2^20 numbers. -/
import Derived.Test.YtfijlemaiiobaaaF0
import Derived.Test.YtfijlemaiiobaaaF4
import Derived.Test.YtfijlemaiiobaaaQBase
import Derived.Test.YtfijlemaiiobaaaQRows
import Derived.Test.YtfijlemaiiobaaaQIsIn
import Derived.Test.YtfijlemaiiobaaaQIsWord
import Derived.Test.YtfijlemaiiobaaaQUpTo
import Derived.Test.YtfijlemaiiobaaaQInsertWord
import Derived.Test.YtfijlemaiiobaaaQPart
import Derived.Test.YtfijlemaiiobaaaQInside
import Derived.Test.YtfijlemaiiobaaaQShapeOf
set_option linter.unusedVariables false
set_option linter.unusedSimpArgs false
namespace Go.Proofs.Ytfijlemaiiobaaa.Q
open Go.RowKit Go.Proofs.Ytfijlemaiiobaaa.F Go.Proofs.YtfijlemaiiobaaaW.PrintWords Go.Proofs.YtfijlemaiiobaaaW.PrintLast Go.Proofs.YtfijlemaiiobaaaW.PrintMore
def shapeOfWord (l : List Int) : List Int := if isWord l then (shapeOf [] (insAll l)).1 else []
theorem insAll_rows (l : List Int) : ∀ r ∈ insAll l, r.length ≤ l.length := fun r hr => by
  have h1 := (insAll_small l).1
  have h2 := bulk_mem hr
  omega
theorem shape_small (n : List Int) (m : List (List Int)) : (shapeOf n m).1.length ≤ m.length := by
  unfold shapeOf
  split
  · rw [outerOf_length]; exact Nat.le_refl _
  · simp
theorem shapeOfWord_small (l : List Int) : (shapeOfWord l).length ≤ 9 := by
  unfold shapeOfWord
  split
  · rename_i h
    have h9 := (isWord_iff.1 h).1
    have h1 := shape_small [] (insAll l)
    have h2 := (insAll_small l).2
    omega
  · simp
theorem impl_ShapeOfWord_ev (l : List Int) : Ev (fun k => impl_ShapeOfWord.f k l) (shapeOfWord l) := by
  unfold impl_ShapeOfWord.f
  refine Ev.bind (impl_InsertWord_ev l) ?_
  by_cases h : isWord l = true
  · have h9 := (isWord_iff.1 h).1
    have hs := insAll_small l
    rw [if_pos h]
    refine ev_pos rfl (Ev.bind (impl_ShapeOf_ev [] (insAll l) (by simp) (by omega) (fun r hr => by have := insAll_rows l r hr; omega)) (ev_val ?_))
    rw [shapeOfWord, if_pos h]
  · rw [if_neg h]
    refine ev_neg (by simp) (ev_val ?_)
    rw [shapeOfWord, if_neg h]
end Go.Proofs.Ytfijlemaiiobaaa.Q
