/- The reading word of a tableau, of the program and of the reference: the same function; condition: at most 2^20 elements in all. -/
import Derived.Test.YtljjjdgnpnnmoaaF0
import Derived.Test.YtljjjdgnpnnmoaaF4
import Derived.Test.YtljjjdgnpnnmoaaF7
import Derived.Test.YtljjjdgnpnnmoaaQBase
import Derived.Test.YtljjjdgnpnnmoaaQRows
import Derived.Test.YtljjjdgnpnnmoaaQPart
import Derived.Test.YtljjjdgnpnnmoaaQInside
import Derived.Test.YtljjjdgnpnnmoaaQShapeOf
import Derived.Test.YtljjjdgnpnnmoaaQTab
set_option linter.unusedVariables false
set_option linter.unusedSimpArgs false
namespace Go.Proofs.Ytljjjdgnpnnmoaa.Q
open Go.RowKit Go.Proofs.Ytljjjdgnpnnmoaa.F Go.Proofs.YtljjjdgnpnnmoaaW.PrintWords Go.Proofs.YtljjjdgnpnnmoaaW.PrintLast Go.Proofs.YtljjjdgnpnnmoaaW.PrintMore
theorem flatten_bulk : ∀ (m : List (List Int)), m.flatten.length = bulk m
  | [] => rfl
  | r :: m => by rw [List.flatten_cons, List.length_append, flatten_bulk m]; rfl
theorem spec_ReadingWord_l0 (n : List Int) (m : List (List Int)) (hn : n.length ≤ 1048576) (hm : m.length ≤ 1048576) (hr : ∀ r ∈ m, r.length ≤ 1048576) (ht : isTab n m = true) :
    ∀ (j : Nat) (xs : List Int), j ≤ m.length → xs.length + (m.take j).flatten.length ≤ 4194304 → Ev (fun k => spec_ReadingWord.l0 k xs ((j : Int) - 1) n m) (xs ++ (m.take j).reverse.flatten)
  | 0, xs, _, _ => by
    refine Ev.step (fun k => by rw [spec_ReadingWord.l0]) ?_
    exact ev_neg (by omega) (ev_val (by simp))
  | j + 1, xs, hj, hb => by
    have e : m.take (j + 1) = m.take j ++ [m[j]] := List.take_succ_eq_append_getElem hj
    have ej : (((j + 1 : Nat) : Int) - 1) = (j : Int) := by omega
    have er : rd_L1 m (j : Int) = m[j] := by unfold rd_L1; rw [Int.toNat_natCast, List.getD_eq_getElem?_getD, List.getElem?_eq_getElem hj]; rfl
    rw [e, List.flatten_append, List.length_append] at hb
    have e1 : [m[j]].flatten.length = m[j].length := by simp
    rw [e1] at hb
    rw [ej]
    refine Ev.step (fun k => by rw [spec_ReadingWord.l0]) ?_
    refine ev_pos (by omega) (Ev.bind (spec_IsTableau_ev n m hn hm hr) (ev_pos ht (ev_pos (by omega) (ev_pos (by omega) ?_))))
    rw [er, wrap_id (by omega) (by omega)]
    refine ev_pos (by omega) ?_
    have h := spec_ReadingWord_l0 n m hn hm hr ht j (xs ++ m[j]) (by omega) (by rw [List.length_append]; omega)
    rw [e, List.reverse_append, List.flatten_append]
    simpa using h
theorem spec_ReadingWord_ev (n : List Int) (m : List (List Int)) (hn : n.length ≤ 1048576) (hm : m.length ≤ 1048576) (hb : bulk m ≤ 1048576) : Ev (fun k => spec_ReadingWord.f k n m) (if isTab n m = true then readAll m else []) := by
  have hr : ∀ r ∈ m, r.length ≤ 1048576 := fun r h => by have := bulk_mem h; omega
  unfold spec_ReadingWord.f
  rw [wrap_id (by omega) (by omega)]
  by_cases ht : isTab n m = true
  · rw [if_pos ht]
    have h := spec_ReadingWord_l0 n m hn hm hr ht m.length [] (Nat.le_refl _) (by rw [List.take_length, flatten_bulk]; simp; omega)
    rw [List.take_length, List.nil_append] at h
    exact h
  · rw [if_neg ht]
    refine Ev.step (fun k => by rw [spec_ReadingWord.l0]) ?_
    refine ev_ite (fun _ => ?_) (fun _ => ev_val rfl)
    exact Ev.bind (spec_IsTableau_ev n m hn hm hr) (ev_neg ht (ev_val rfl))
theorem impl_ReadingWord_ev (n : List Int) (m : List (List Int)) (hn : n.length ≤ 1048576) (hm : m.length ≤ 1048576) (hb : bulk m ≤ 1048576) : Ev (fun k => impl_ReadingWord.f k n m) (if isTab n m = true then readAll m else []) := by
  have hr : ∀ r ∈ m, r.length ≤ 1048576 := fun r h => by have := bulk_mem h; omega
  unfold impl_ReadingWord.f
  refine Ev.bind (impl_IsTableau_ev n m hn hm hr) (ev_ite (fun h => ?_) (fun h => ?_))
  · rw [if_pos h]
    refine ev_pos ?_ (ev_val rfl)
    have h1 := Nat.mul_le_mul hm (show m.flatten.length ≤ 1048576 by rw [flatten_bulk]; exact hb)
    omega
  · rw [if_neg h]
    exact ev_val rfl
theorem readAll_bulk (m : List (List Int)) : (readAll m).length = bulk m := by
  unfold readAll
  rw [← flatten_bulk, List.length_flatten, List.length_flatten, List.map_reverse, List.sum_reverse]
end Go.Proofs.Ytljjjdgnpnnmoaa.Q
