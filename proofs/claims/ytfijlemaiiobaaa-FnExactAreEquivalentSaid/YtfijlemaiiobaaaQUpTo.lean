/- The numbers from 1 to n; condition: n is at most 2^20. -/
import Derived.Test.YtfijlemaiiobaaaF0
import Derived.Test.YtfijlemaiiobaaaF6
import Derived.Test.YtfijlemaiiobaaaQBase
set_option linter.unusedVariables false
set_option linter.unusedSimpArgs false
namespace Go.Proofs.Ytfijlemaiiobaaa.Q
open Go.RowKit Go.Proofs.Ytfijlemaiiobaaa.F Go.Proofs.YtfijlemaiiobaaaW.PrintWords Go.Proofs.YtfijlemaiiobaaaW.PrintLast Go.Proofs.YtfijlemaiiobaaaW.PrintMore
def upList (n : Nat) : List Int := (List.range n).map fun j => ((j + 1 : Nat) : Int)
@[simp] theorem upList_length (n : Nat) : (upList n).length = n := by simp [upList]
theorem upList_rd (n j : Nat) (h : j < n) : rd (upList n) (j : Int) = ((j + 1 : Nat) : Int) := by
  rw [rd_eq _ j (by simpa using h)]; simp [upList]
theorem upTo_ev (n : Nat) (hn : n ≤ 1048576) : Ev (fun k => impl_upTo.f k (n : Int)) (upList n) := by
  unfold impl_upTo.f
  refine downTo (P := fun i => Ev (fun k => impl_upTo.l0 k (upList i) (n : Int) (i : Int)) (upList n)) n ?_ ?_ 0 (by omega)
  · refine Ev.step (fun k => by rw [impl_upTo.l0]) ?_
    exact ev_neg (by omega) (ev_val rfl)
  · intro i hi h
    refine Ev.step (fun k => by rw [impl_upTo.l0]) ?_
    refine ev_pos (by omega) (ev_pos (by simp; omega) ?_)
    rw [wrap_succ (by omega)]
    have e : upList i ++ [((i + 1 : Nat) : Int)] = upList (i + 1) := by simp [upList, List.range_succ]
    rw [e]
    exact h
end Go.Proofs.Ytfijlemaiiobaaa.Q
