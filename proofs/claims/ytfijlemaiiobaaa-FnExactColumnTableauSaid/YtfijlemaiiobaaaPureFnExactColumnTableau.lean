/- The law on ColumnTableau comes to this: both sides compute the same tableau; no condition beyond the statement's own. -/
import Derived.Test.YtfijlemaiiobaaaF0
import Derived.Test.YtfijlemaiiobaaaF4
import Derived.Test.YtfijlemaiiobaaaQBase
import Derived.Test.YtfijlemaiiobaaaQRows
import Derived.Test.YtfijlemaiiobaaaQIsWord
import Derived.Test.YtfijlemaiiobaaaQCols
import Derived.Test.YtfijlemaiiobaaaQColTableau
import Derived.Test.YtfijlemaiiobaaaWalkFnExactColumnTableau
set_option linter.unusedVariables false
set_option linter.unusedSimpArgs false
namespace Go.Proofs.Ytfijlemaiiobaaa.Pure
open Go.RowKit Go.Proofs.Ytfijlemaiiobaaa.F Go.Proofs.YtfijlemaiiobaaaW.PrintWords Go.Proofs.YtfijlemaiiobaaaW.PrintLast Go.Proofs.YtfijlemaiiobaaaW.PrintMore Go.Proofs.Ytfijlemaiiobaaa.Q
theorem bulk_allC (b : Nat) : ∀ (M : List (List Int)), (∀ r ∈ M, r.length ≤ b) → bulk M ≤ b * M.length
  | [], _ => by simp [bulk]
  | r :: M, h => by
    have h1 := h r (by simp)
    have h2 := bulk_allC b M (fun s hs => h s (by simp [hs]))
    rw [bulk, List.length_cons, Nat.mul_add]
    omega
theorem FnExactColumnTableau : Walk.FnExactColumnTableau.Pure := by
  intro w _ _ hl
  refine ⟨(colT w).1, (colT w).2.1, (colT w).2.2, spec_ColumnTableau_ev w hl, rfl, ?_⟩
  unfold colT
  split
  · rename_i h
    have h9 := (isWord_iff.1 h).1
    obtain ⟨b1, b2⟩ := colC_bd w
    obtain ⟨c1, c2⟩ := cols_bd 9 (colC w) (fun c hc => Nat.le_trans (b2 c hc) h9)
    have h3 : ∀ r ∈ cols (colC w), r.length ≤ 9 := fun r hr => by have := (c2 r hr).2; omega
    have := bulk_allC 9 _ h3
    exact ⟨by simp, by dsimp only; omega, by dsimp only; omega⟩
  · exact ⟨by simp, by simp, by simp [bulk]⟩
end Go.Proofs.Ytfijlemaiiobaaa.Pure
