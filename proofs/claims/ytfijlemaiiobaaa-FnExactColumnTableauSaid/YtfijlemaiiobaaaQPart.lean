/- An element of a list with 0 behind its end, and partitions: the program's and the reference's functions are the same; condition: at most 2^20 elements. -/
import Derived.Test.YtfijlemaiiobaaaF0
import Derived.Test.YtfijlemaiiobaaaF2
import Derived.Test.YtfijlemaiiobaaaF4
import Derived.Test.YtfijlemaiiobaaaQBase
import Derived.Test.YtfijlemaiiobaaaQOnce
import Derived.Test.YtfijlemaiiobaaaQRows
import Derived.Test.YtfijlemaiiobaaaQIsIn
set_option linter.unusedVariables false
set_option linter.unusedSimpArgs false
namespace Go.Proofs.Ytfijlemaiiobaaa.Q
open Go.RowKit Go.Proofs.Ytfijlemaiiobaaa.F Go.Proofs.YtfijlemaiiobaaaW.PrintWords Go.Proofs.YtfijlemaiiobaaaW.PrintLast Go.Proofs.YtfijlemaiiobaaaW.PrintMore
def at0 (l : List Int) (i : Int) : Int := if 0 ≤ i ∧ i < (l.length : Int) then rd l i else 0
theorem at0_nat (l : List Int) (i : Nat) (h : i < l.length) : at0 l (i : Int) = rd l (i : Int) := by unfold at0; rw [if_pos (by omega)]
theorem at0_out (l : List Int) (i : Int) (h : i < 0 ∨ (l.length : Int) ≤ i) : at0 l i = 0 := by unfold at0; rw [if_neg (by omega)]
theorem impl_within_eq (a b c : Int) : impl_within.f a b c = some (decide (b ≤ a ∧ a ≤ c)) := rfl
theorem spec_l2At_eq (l : List Int) (i : Int) : spec_l2At.f l i = some (at0 l i) := by
  unfold spec_l2At.f at0
  by_cases h1 : i < 0
  · rw [if_pos h1, if_neg (by omega)]
  · rw [if_neg h1]
    by_cases h2 : i ≥ (l.length : Int)
    · rw [if_pos h2, if_neg (by omega)]
    · rw [if_neg h2, if_pos (by omega), if_pos (by omega), if_pos (by omega)]
/-- the numbers go on from 'prev' without rising, each is 1 or more, with 's' they add up to at most 9 -/
def partOk (prev s : Int) : List Int → Bool
  | [] => true
  | x :: l => decide (1 ≤ x ∧ x ≤ 9) && decide (x ≤ prev) && decide (s + x ≤ 9) && partOk x (s + x) l
def isPartition (l : List Int) : Bool := partOk 9 0 l
theorem partOk_sum {l : List Int} : ∀ {prev s : Int}, s ≤ 9 → partOk prev s l = true → s + isum l ≤ 9 ∧ s + l.length ≤ 9 ∧ ∀ x ∈ l, 1 ≤ x ∧ x ≤ 9 := by
  induction l with
  | nil => intro prev s h _; simp [isum, h]
  | cons x l ih =>
    intro prev s h hp
    simp only [partOk, Bool.and_eq_true, decide_eq_true_eq] at hp
    obtain ⟨⟨⟨h1, h2⟩, h3⟩, h4⟩ := hp
    obtain ⟨g1, g2, g3⟩ := ih h3 h4
    simp only [isum, List.length_cons]
    refine ⟨by omega, by omega, fun y hy => ?_⟩
    rcases List.mem_cons.1 hy with rfl | hy
    · exact h1
    · exact g3 y hy
theorem isPartition_bd {l : List Int} (h : isPartition l = true) : isum l ≤ 9 ∧ l.length ≤ 9 ∧ ∀ x ∈ l, 1 ≤ x ∧ x ≤ 9 := by
  obtain ⟨h1, h2, h3⟩ := partOk_sum (by omega) h
  exact ⟨by omega, by omega, h3⟩
theorem bool_not_t {X : Bool} (h : true = !X) : X = false := by cases X <;> simp_all
theorem bool_not_f {X : Bool} (h : false = !X) : X = true := by cases X <;> simp_all
/-- the number ahead of index i; 9 ahead of the first -/
def before (l : List Int) (i : Nat) : Int := match i with | 0 => 9 | i + 1 => rd l (i : Int)
end Go.Proofs.Ytfijlemaiiobaaa.Q
