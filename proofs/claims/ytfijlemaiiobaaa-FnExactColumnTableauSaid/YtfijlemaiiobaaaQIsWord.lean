/- IsWord, of the program and of the reference: at most nine numbers, all from 1 to 9. -/
import Derived.Test.YtfijlemaiiobaaaF0
import Derived.Test.YtfijlemaiiobaaaF2
import Derived.Test.YtfijlemaiiobaaaF4
import Derived.Test.YtfijlemaiiobaaaQBase
import Derived.Test.YtfijlemaiiobaaaQIsIn
set_option linter.unusedVariables false
set_option linter.unusedSimpArgs false
namespace Go.Proofs.Ytfijlemaiiobaaa.Q
open Go.RowKit Go.Proofs.Ytfijlemaiiobaaa.F Go.Proofs.YtfijlemaiiobaaaW.PrintWords Go.Proofs.YtfijlemaiiobaaaW.PrintLast Go.Proofs.YtfijlemaiiobaaaW.PrintMore
def isWord (l : List Int) : Bool := decide (l.length ≤ 9) && l.all (fun x => decide (1 ≤ x ∧ x ≤ 9))
theorem isWord_iff {l : List Int} : isWord l = true ↔ l.length ≤ 9 ∧ ∀ x ∈ l, 1 ≤ x ∧ x ≤ 9 := by simp [isWord]
theorem impl_IsWord_eq (l : List Int) : impl_IsWord.f l = some (isWord l) := by
  unfold impl_IsWord.f isWord
  congr 2
  rw [List.any_eq_not_all_not]
  simp
theorem spec_IsWord_l0 (l : List Int) (hl : l.length ≤ 1048576) : ∀ (d i : Nat), i + d = l.length → Ev (fun k => spec_IsWord.l0 k l (i : Int)) ((l.drop i).all (fun x => decide (1 ≤ x ∧ x ≤ 9)) && decide (l.length ≤ 9)) := by
  intro d
  induction d with
  | zero =>
    intro i h
    refine Ev.step (fun k => by rw [spec_IsWord.l0]) ?_
    refine ev_neg (by omega) (ev_val ?_)
    rw [List.drop_of_length_le (by omega)]
    simp; omega
  | succ d ih =>
    intro i h
    refine Ev.step (fun k => by rw [spec_IsWord.l0]) ?_
    refine ev_pos (by omega) (ev_pos (by omega) (ev_bindc (spec_l1In_eq _ _ _) (ev_ite (fun he => ?_) (fun he => ev_val ?_))))
    · rw [wrap_succ (by omega)]
      refine ev_eq (ih (i + 1) (by omega)) ?_
      rw [drop_rd l i (by omega), List.all_cons, he, Bool.true_and]
    · rw [drop_rd l i (by omega), List.all_cons]
      simp only [Bool.not_eq_true] at he
      rw [he]; rfl
theorem spec_IsWord_ev (l : List Int) (hl : l.length ≤ 1048576) : Ev (fun k => spec_IsWord.f k l) (isWord l) := by
  unfold spec_IsWord.f
  refine ev_eq (spec_IsWord_l0 l hl l.length 0 (by omega)) ?_
  rw [List.drop_zero, isWord, Bool.and_comm]
end Go.Proofs.Ytfijlemaiiobaaa.Q
