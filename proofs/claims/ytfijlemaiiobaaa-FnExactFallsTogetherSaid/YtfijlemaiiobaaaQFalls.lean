/- FallsTogether, of the program and of the reference: the numbers in the first columns; condition: at most 2^20 numbers. -/
import Derived.Test.YtfijlemaiiobaaaF0
import Derived.Test.YtfijlemaiiobaaaF6
import Derived.Test.YtfijlemaiiobaaaQBase
import Derived.Test.YtfijlemaiiobaaaQIsIn
import Derived.Test.YtfijlemaiiobaaaQIsWord
import Derived.Test.YtfijlemaiiobaaaQPart
import Derived.Test.YtfijlemaiiobaaaQInsertWord
import Derived.Test.YtfijlemaiiobaaaQShapeOfWord
import Derived.Test.YtfijlemaiiobaaaQGreene
import Derived.Test.YtfijlemaiiobaaaQLens
import Derived.Test.YtfijlemaiiobaaaQConj
set_option linter.unusedVariables false
set_option linter.unusedSimpArgs false
namespace Go.Proofs.Ytfijlemaiiobaaa.Q
open Go.RowKit Go.Proofs.Ytfijlemaiiobaaa.F Go.Proofs.YtfijlemaiiobaaaW.PrintWords Go.Proofs.YtfijlemaiiobaaaW.PrintLast Go.Proofs.YtfijlemaiiobaaaW.PrintMore
def fallsT (l : List Int) (a : Int) : Int := if isWord l = true ∧ 0 ≤ a ∧ a ≤ 9 then (firstCols a.toNat (insAll l) : Int) else -1
theorem impl_FallsTogether_ev (l : List Int) (a : Int) : Ev (fun k => impl_FallsTogether.f k l a) (fallsT l a) := by
  unfold impl_FallsTogether.f
  refine ev_bindc (impl_IsWord_eq l) (ev_ite (fun h => ?_) (fun h => ?_))
  · refine ev_bindc (impl_within_eq a 0 9) (Ev.step (fun k => by rw [impl_FallsTogether.j0]) ?_)
    by_cases ha : 0 ≤ a ∧ a ≤ 9
    · have h9 := (isWord_iff.1 h).1
      have hp := lens_isPart l h9
      obtain ⟨K, rfl⟩ : ∃ K : Nat, a = (K : Int) := ⟨a.toNat, by omega⟩
      rw [fallsT, if_pos ⟨h, ha⟩, Int.toNat_natCast]
      refine ev_neg (by simp [ha]) (Ev.bind (impl_ShapeOfWord_ev l) ?_)
      rw [shapeOfWord_lens h]
      refine Ev.bind (conjugate_ev _ hp) (Ev.bind (first_ev _ K (by have := (conj_bd hp).1; omega) (conj_bd hp).2) (ev_val ?_))
      exact isum_conj _ hp K
    · refine ev_pos (by simp [ha]) (ev_val ?_)
      rw [fallsT, if_neg (fun h => ha h.2)]
  · refine Ev.step (fun k => by rw [impl_FallsTogether.j0]) (ev_pos rfl (ev_val ?_))
    rw [fallsT, if_neg (fun h2 => h h2.1)]
end Go.Proofs.Ytfijlemaiiobaaa.Q
