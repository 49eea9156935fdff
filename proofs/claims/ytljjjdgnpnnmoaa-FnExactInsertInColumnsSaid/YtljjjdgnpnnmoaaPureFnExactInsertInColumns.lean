/- The law on InsertInColumns comes to this: both sides compute the same tableau; no condition beyond the statement's own. -/
import Derived.Test.YtljjjdgnpnnmoaaF0
import Derived.Test.YtljjjdgnpnnmoaaF11
import Derived.Test.YtljjjdgnpnnmoaaQAll
import Derived.Test.YtljjjdgnpnnmoaaWalkFnExactInsertInColumns
set_option linter.unusedVariables false
set_option linter.unusedSimpArgs false
namespace Go.Proofs.Ytljjjdgnpnnmoaa.Pure
open Go.RowKit Go.Proofs.Ytljjjdgnpnnmoaa.F Go.Proofs.YtljjjdgnpnnmoaaW.PrintWords Go.Proofs.YtljjjdgnpnnmoaaW.PrintLast Go.Proofs.YtljjjdgnpnnmoaaW.PrintMore Go.Proofs.Ytljjjdgnpnnmoaa.Q
theorem bulk_le_of (b : Nat) : ∀ (M : List (List Int)), (∀ r ∈ M, r.length ≤ b) → bulk M ≤ b * M.length
  | [], _ => by simp [bulk]
  | r :: M, h => by
    have h1 := h r (by simp)
    have h2 := bulk_le_of b M (fun s hs => h s (by simp [hs]))
    rw [bulk, List.length_cons, Nat.mul_add]
    omega
theorem FnExactInsertInColumns : Walk.FnExactInsertInColumns.Pure := by
  intro n m x _ _ _ _ _ _ hn hs
  refine ⟨(insIC n m x).1, (insIC n m x).2.1, (insIC n m x).2.2, spec_InsertInColumns_ev n m x hn hs.1 hs.2, ?_, ?_⟩
  · unfold Walk.impl_InsertInColumns.f
    rw [if_pos ⟨hn, hs.1, hs.2⟩]
  · unfold insIC
    split
    · rename_i h
      obtain ⟨rfl, ht⟩ := plainT_iff.1 h.1
      obtain ⟨_, _, s3, s4⟩ := Walk.ins_small ht x
      obtain ⟨b1, b2⟩ := cols_bd 10 _ s4
      have hc : ∀ c ∈ cols (insCols (cols m) x), c.length ≤ 10 := fun c hc => Nat.le_trans (b2 c hc).2 s3
      have := bulk_le_of 10 _ hc
      exact ⟨by simp, by dsimp only; omega, by dsimp only; omega⟩
    · exact ⟨by simp, by simp, by simp [bulk]⟩
end Go.Proofs.Ytljjjdgnpnnmoaa.Pure
