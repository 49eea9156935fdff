/- The longest chain is the most that one chain covers; no condition. -/
import Derived.Test.YtfijlemaiiobaaaF0
import Derived.Test.YtfijlemaiiobaaaF5
import Derived.Test.YtfijlemaiiobaaaQBase
import Derived.Test.YtfijlemaiiobaaaQInsertWord
import Derived.Test.YtfijlemaiiobaaaQGreene
import Derived.Test.YtfijlemaiiobaaaQLongest
set_option linter.unusedVariables false
set_option linter.unusedSimpArgs false
namespace Go.Proofs.Ytfijlemaiiobaaa.Q
open Go.RowKit Go.Proofs.Ytfijlemaiiobaaa.F Go.Proofs.YtfijlemaiiobaaaW.PrintWords Go.Proofs.YtfijlemaiiobaaaW.PrintLast Go.Proofs.YtfijlemaiiobaaaW.PrintMore
theorem link_not (b : Bool) (x y : Int) : Link (!b) x y ↔ ¬ Link b x y := by
  unfold Link
  cases b <;> cases decide (x ≤ y) <;> simp
theorem short_one (b : Bool) (X : List Int) : Short (Link (!b)) 1 X ↔ X.Pairwise (Link b) := by
  constructor
  · intro h
    refine List.pairwise_iff_forall_sublist.2 (fun {x y} hs => ?_)
    by_cases hl : Link b x y
    · exact hl
    · have := h [x, y] hs (by simp [(link_not b x y).2 hl])
      simp at this
  · intro h c hc hp
    have hq := h.sublist hc
    match c, hp, hq with
    | [], _, _ => simp
    | [_], _, _ => simp
    | x :: y :: _, p, q =>
      have h1 := (List.pairwise_cons.1 p).1 y (by simp)
      have h2 := (List.pairwise_cons.1 q).1 y (by simp)
      exact absurd h2 ((link_not b x y).1 h1)
theorem longest_fit {b : Bool} {w : List Int} {M : Nat} (h : Most (fun c => c.Sublist w ∧ c.Pairwise (Link b)) M) : Fit (Link (!b)) 1 M w ∧ ∀ n, Fit (Link (!b)) 1 n w → n ≤ M := by
  obtain ⟨⟨c, ⟨h1, h2⟩, rfl⟩, h3⟩ := h
  refine ⟨⟨c, h1, rfl, (short_one b c).2 h2⟩, ?_⟩
  rintro n ⟨X, hX, rfl, hS⟩
  exact h3 X ⟨hX, (short_one b X).1 hS⟩
theorem longest_rise {w : List Int} {M : Nat} (h : Most (fun c => c.Sublist w ∧ c.Pairwise (Link true)) M) : M = firstRows 1 (insAll w) := by
  obtain ⟨h2, h3⟩ := longest_fit h
  rw [show (!true) = false from rfl, link_false] at h2 h3
  obtain ⟨g1, g2⟩ := greene_rise w 1
  exact Nat.le_antisymm (g2 M h2) (h3 _ g1)
theorem longest_fall {w : List Int} {M : Nat} (h : Most (fun c => c.Sublist w ∧ c.Pairwise (Link false)) M) : M = firstCols 1 (insAll w) := by
  obtain ⟨h2, h3⟩ := longest_fit h
  rw [show (!false) = true from rfl, link_true] at h2 h3
  obtain ⟨g1, g2⟩ := greene_fall w 1
  exact Nat.le_antisymm (g2 M h2) (h3 _ g1)
end Go.Proofs.Ytfijlemaiiobaaa.Q
