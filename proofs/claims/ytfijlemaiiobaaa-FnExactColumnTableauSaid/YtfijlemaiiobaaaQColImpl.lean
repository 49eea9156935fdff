/- The program's columns of a tableau, and the tableau of columns; condition: at most 2^20 elements. -/
import Derived.Test.YtfijlemaiiobaaaF0
import Derived.Test.YtfijlemaiiobaaaF4
import Derived.Test.YtfijlemaiiobaaaF5
import Derived.Test.YtfijlemaiiobaaaQBase
import Derived.Test.YtfijlemaiiobaaaQRows
import Derived.Test.YtfijlemaiiobaaaQCols
set_option linter.unusedVariables false
set_option linter.unusedSimpArgs false
namespace Go.Proofs.Ytfijlemaiiobaaa.Q
open Go.RowKit Go.Proofs.Ytfijlemaiiobaaa.F Go.Proofs.YtfijlemaiiobaaaW.PrintWords Go.Proofs.YtfijlemaiiobaaaW.PrintLast Go.Proofs.YtfijlemaiiobaaaW.PrintMore
theorem cols_take (m : List (List Int)) (i : Nat) (h : i < m.length) : cols (m.take (i + 1)) = addRow (cols (m.take i)) (rd_L1 m (i : Int)) := by
  rw [take_rows m i h, cols_snoc]
theorem putCol_eq (C : List (List Int)) (i : Nat) (n : Int) : putCol C i n = (if i = C.length then C ++ [[]] else C).set i (rd_L1 (if i = C.length then C ++ [[]] else C) (i : Int) ++ [n]) := by
  unfold putCol
  rw [rows_nat]
theorem impl_columnsOf_l1 (m : List (List Int)) (i : Nat) (C : List (List Int)) (Z : List (List Int)) (hC : C.length ≤ 1048576) (hc : ∀ c ∈ C, c.length ≤ 1048576) (hrow : (rd_L1 m (i : Int)).length ≤ 1048576)
    (hnext : Ev (fun k => impl_columnsOf.l0 k (addRow C (rd_L1 m (i : Int))) m (m.length : Int) (wrap64 ((i : Int) + 1))) Z) :
    ∀ (d j : Nat), j + d = (rd_L1 m (i : Int)).length → Ev (fun k => impl_columnsOf.l1 k (addRow C ((rd_L1 m (i : Int)).take j)) m (m.length : Int) (i : Int) (rd_L1 m (i : Int)) ((rd_L1 m (i : Int)).length : Int) (j : Int)) Z
  | 0, j, hj => by
    refine Ev.step (fun k => by rw [impl_columnsOf.l1]) ?_
    rw [List.take_of_length_le (by omega)]
    exact ev_neg (by omega) hnext
  | d + 1, j, hj => by
    generalize hR : rd_L1 m (i : Int) = row at hrow hnext hj
    have hlt : j < row.length := by omega
    have ih := impl_columnsOf_l1 m i C Z hC hc (by rw [hR]; exact hrow) (by rw [hR]; exact hnext) d (j + 1) (by rw [hR]; omega)
    rw [hR] at ih
    have hlen := addRow_length C (row.take j)
    rw [List.length_take] at hlen
    have hput := addRow_snoc (row.take j) C (rd row (j : Int))
    rw [← take_rd row j hlt, List.length_take, Nat.min_eq_left (Nat.le_of_lt hlt), putCol_eq] at hput
    have hcell : (rd_L1 (addRow C (row.take j)) (j : Int)).length ≤ 1048576 := by
      rw [rows_nat, List.getD_eq_getElem?_getD, addRow_get]
      have e : (row.take j)[j]? = none := List.getElem?_eq_none (by rw [List.length_take]; omega)
      rw [e]
      show ((C[j]?).getD []).length ≤ _
      cases hq : C[j]? with
      | none => simp
      | some c => exact hc c (List.mem_of_getElem? hq)
    refine Ev.step (fun k => by rw [impl_columnsOf.l1]) ?_
    refine ev_pos (by omega) (ev_pos (by omega) (ev_pos (by omega) (ev_ite (fun h => ?_) (fun h => ?_))))
    · have h2 : j = (addRow C (row.take j)).length := by omega
      rw [if_pos h2] at hput
      have er : rd_L1 (addRow C (row.take j) ++ [[]]) (j : Int) = [] := by rw [rows_nat, List.getD_eq_getElem?_getD, List.getElem?_append_right (by omega), ← h2]; simp
      refine ev_pos (by omega) (ev_bindc rfl (ev_pos (by rw [List.length_append, List.length_singleton]; omega) (ev_pos (by rw [er]; simp) ?_)))
      rw [Int.toNat_natCast, hput, wrap_succ (by omega)]
      exact ih
    · have h2 : ¬ j = (addRow C (row.take j)).length := by omega
      rw [if_neg h2] at hput
      refine ev_pos (by omega) (ev_pos (by omega) ?_)
      rw [Int.toNat_natCast, hput, wrap_succ (by omega)]
      exact ih
theorem impl_columnsOf_ev (n : List Int) (m : List (List Int)) (hm : m.length ≤ 1048575) (hr : ∀ r ∈ m, r.length ≤ 1048576) : Ev (fun k => impl_columnsOf.f k n m) (cols m) := by
  have key : ∀ (d i : Nat), i + d = m.length → Ev (fun k => impl_columnsOf.l0 k (cols (m.take i)) m (m.length : Int) (i : Int)) (cols m) := by
    intro d
    induction d with
    | zero =>
      intro i hi
      refine Ev.step (fun k => by rw [impl_columnsOf.l0]) ?_
      exact ev_neg (by omega) (ev_val (by rw [List.take_of_length_le (by omega)]))
    | succ d ih =>
      intro i hi
      have hlt : i < m.length := by omega
      obtain ⟨b1, b2⟩ := cols_bd 1048576 (m.take i) (fun r h => hr r (List.mem_of_mem_take h))
      refine Ev.step (fun k => by rw [impl_columnsOf.l0]) ?_
      refine ev_pos (by omega) (ev_pos (by omega) (ev_pos (by omega) ?_))
      have := impl_columnsOf_l1 m i (cols (m.take i)) (cols m) b1 (fun c hc => by have := (b2 c hc).2; rw [List.length_take] at this; omega) (hr _ (rows_mem m i hlt)) (by
        rw [← cols_take m i hlt, wrap_succ (by omega)]
        exact ih (i + 1) (by omega)) (rd_L1 m (i : Int)).length 0 (by omega)
      rw [List.take_zero, addRow_nil] at this
      exact this
  unfold impl_columnsOf.f
  exact key m.length 0 (by omega)
theorem impl_ofColumns_ev (m : List (List Int)) (hm : m.length ≤ 1048575) (hr : ∀ r ∈ m, r.length ≤ 1048576) : Ev (fun k => impl_ofColumns.f k m) ([], cols m) := by
  unfold impl_ofColumns.f
  exact Ev.bind (impl_columnsOf_ev [] m hm hr) (ev_val rfl)
end Go.Proofs.Ytfijlemaiiobaaa.Q
