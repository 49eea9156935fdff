/- What TurnMatrix returns, in the program and in the reference; condition: at most 2^20 rows, of at most 2^20 numbers each. -/
import Derived.Test.YtekjnjejgefbhaaF0
import Derived.Test.YtekjnjejgefbhaaF2
import Derived.Test.YtekjnjejgefbhaaF3
import Derived.Test.YtekjnjejgefbhaaQBase
import Derived.Test.YtekjnjejgefbhaaQRows
import Derived.Test.YtekjnjejgefbhaaQMatrix
set_option linter.unusedVariables false
set_option linter.unusedSimpArgs false
namespace Go.Proofs.Ytekjnjejgefbhaa.Q
open Go.RowKit Go.Proofs.Ytekjnjejgefbhaa.F Go.Proofs.YtekjnjejgefbhaaW.PrintWords Go.Proofs.YtekjnjejgefbhaaW.PrintLast Go.Proofs.YtekjnjejgefbhaaW.PrintMore
def cols (m : List (List Int)) : List (List Int) := (List.range (m.getD 0 []).length).map fun j => m.map fun r => r.getD j 0
theorem mat_row {m : List (List Int)} (h : IsMat m) (i : Nat) (hi : i < m.length) : (rd_L1 m (i : Int)).length = (m.getD 0 []).length := (h.2.1 _ (rows_mem m i hi)).1
theorem take_map_row (m : List (List Int)) (j i : Nat) (hi : i < m.length) : (m.take (i + 1)).map (fun r => r.getD j 0) = (m.take i).map (fun r => r.getD j 0) ++ [rd (rd_L1 m (i : Int)) (j : Int)] := by
  rw [take_rows m i hi, List.map_append, rd_nat]; rfl
theorem spec_Turn_l1 (m : List (List Int)) (hm : IsMat m) (out : List (List Int)) (j : Nat) (hj : j < (m.getD 0 []).length) (ho : out.length < 1000) (r : List (List Int) × Bool)
    (hn : Ev (fun k => spec_TurnMatrix.l0 k m (out ++ [m.map fun r => r.getD j 0]) ((j + 1 : Nat) : Int)) r) : Ev (fun k => spec_TurnMatrix.l1 k m out (j : Int) [] 0) r := by
  have h9 := hm.1
  have hc : (m.getD 0 []).length ≤ 9 ∨ m = [] := by
    cases m with
    | nil => exact .inr rfl
    | cons a b => exact .inl (hm.2.1 a (by simp)).2.1
  have hc9 : (m.getD 0 []).length ≤ 9 := by
    rcases hc with h | rfl
    · exact h
    · simp
  refine downTo (P := fun i => Ev (fun k => spec_TurnMatrix.l1 k m out (j : Int) ((m.take i).map fun r => r.getD j 0) (i : Int)) r) m.length ?_ ?_ 0 (by omega)
  · refine Ev.step (fun k => by rw [spec_TurnMatrix.l1]) ?_
    rw [List.take_length, wrap_succ (n := j) (by omega)]
    exact ev_neg (by omega) (ev_pos (by omega) hn)
  · intro i hi ih
    refine Ev.step (fun k => by rw [spec_TurnMatrix.l1]) ?_
    have hr := mat_row hm i hi
    refine ev_pos (by omega) (ev_pos (by omega) (ev_pos (by omega) (ev_pos (by omega) (ev_pos (by simp; omega) ?_))))
    rw [wrap_succ (by omega), ← take_map_row m j i hi]
    exact ih
theorem spec_Turn_ev (m : List (List Int)) (hl : m.length ≤ 1048576) (hr : ∀ r ∈ m, r.length ≤ 1048576) :
    Ev (fun k => spec_TurnMatrix.f k m) (if IsMat m ∧ m ≠ [] ∧ m.getD 0 [] ≠ [] then (cols m, true) else ([], false)) := by
  unfold spec_TurnMatrix.f
  refine ev_bindc rfl (Ev.bind (spec_IsMatrix_ev m hl hr) ?_)
  by_cases hM : IsMat m
  · refine ev_pos (by simp [hM]) ?_
    by_cases h0 : m = []
    · refine ev_pos (by simp [h0]) (Ev.step (fun k => by rw [spec_TurnMatrix.j0]) (ev_pos rfl (ev_val ?_)))
      simp [h0]
    · have hlen : 0 < m.length := List.length_pos_iff.2 h0
      have e0 : rd_L1 m 0 = m.getD 0 [] := rows_nat m 0
      refine ev_neg (by omega) (ev_pos (by omega) (Ev.step (fun k => by rw [spec_TurnMatrix.j0]) ?_))
      rw [e0]
      by_cases h1 : m.getD 0 [] = []
      · refine ev_pos (by rw [h1]; rfl) (ev_val ?_)
        rw [if_neg (fun h => h.2.2 h1)]
      · have hp : 0 < (m.getD 0 []).length := List.length_pos_iff.2 h1
        refine ev_neg (by rw [beq_iff_eq]; omega) ?_
        rw [if_pos ⟨hM, h0, h1⟩]
        have hc9 : (m.getD 0 []).length ≤ 9 := by
          have := (hM.2.1 _ (rows_mem m 0 hlen)).2.1
          rwa [show rd_L1 m ((0 : Nat) : Int) = m.getD 0 [] from rows_nat m 0] at this
        refine downTo (P := fun j => Ev (fun k => spec_TurnMatrix.l0 k m ((List.range j).map fun j => m.map fun r => r.getD j 0) (j : Int)) (cols m, true)) (m.getD 0 []).length ?_ ?_ 0 (by omega)
        · refine Ev.step (fun k => by rw [spec_TurnMatrix.l0]) (ev_pos (by omega) ?_)
          rw [e0]
          exact ev_neg (by omega) (ev_val rfl)
        · intro j hj ih
          refine Ev.step (fun k => by rw [spec_TurnMatrix.l0]) (ev_pos (by omega) ?_)
          rw [e0]
          refine ev_pos (by omega) (spec_Turn_l1 m hM _ j hj (by simp; omega) _ ?_)
          rw [List.range_succ, List.map_append] at ih
          exact ih
  · refine ev_neg (by simp [hM]) (Ev.step (fun k => by rw [spec_TurnMatrix.j0]) (ev_pos rfl (ev_val ?_)))
    rw [if_neg (fun h => hM h.1)]
/-- the columns so far: i rows are in, of the next one the first j numbers -/
def part (m : List (List Int)) (i j : Nat) : List (List Int) := (List.range (m.getD 0 []).length).map fun q => (m.take (if q < j then i + 1 else i)).map fun r => r.getD q 0
theorem part_length (m : List (List Int)) (i j : Nat) : (part m i j).length = (m.getD 0 []).length := by simp [part]
theorem part_row (m : List (List Int)) (i j q : Nat) (hq : q < (m.getD 0 []).length) : rd_L1 (part m i j) (q : Int) = (m.take (if q < j then i + 1 else i)).map fun r => r.getD q 0 := by
  rw [rows_eq _ q (by rw [part_length]; exact hq)]
  simp [part]
theorem part_set (m : List (List Int)) (i j : Nat) (hi : i < m.length) (hj : j < (m.getD 0 []).length) : (part m i j).set j (rd_L1 (part m i j) (j : Int) ++ [rd (rd_L1 m (i : Int)) (j : Int)]) = part m i (j + 1) := by
  rw [part_row m i j j hj, if_neg (Nat.lt_irrefl _), ← take_map_row m j i hi]
  refine List.ext_getElem (by simp [part]) fun q h1 h2 => ?_
  rw [List.getElem_set]
  by_cases e : j = q
  · subst e
    rw [if_pos rfl]
    simp [part]
  · rw [if_neg e]
    simp only [part, List.getElem_map, List.getElem_range]
    by_cases h3 : q < j
    · rw [if_pos h3, if_pos (by omega)]
    · rw [if_neg h3, if_neg (by omega)]
theorem part_next (m : List (List Int)) (i : Nat) : part m i (m.getD 0 []).length = part m (i + 1) 0 := by
  refine List.map_congr_left fun q hq => ?_
  rw [List.mem_range] at hq
  rw [if_pos hq, if_neg (by omega)]
theorem impl_Turn_ev (m : List (List Int)) : Ev (fun k => impl_TurnMatrix.f k m) (if IsMat m ∧ m ≠ [] ∧ m.getD 0 [] ≠ [] then (cols m, true) else ([], false)) := by
  unfold impl_TurnMatrix.f
  refine Ev.bind (impl_IsMatrix_ev m) ?_
  by_cases hM : IsMat m
  · refine ev_pos (by simp [hM]) ?_
    by_cases h0 : m = []
    · refine ev_pos (by simp [h0]) (Ev.step (fun k => by rw [impl_TurnMatrix.j0]) (ev_pos rfl (ev_val ?_)))
      simp [h0]
    · have hlen : 0 < m.length := List.length_pos_iff.2 h0
      have e0 : rd_L1 m 0 = m.getD 0 [] := rows_nat m 0
      refine ev_neg (by omega) (ev_pos (by omega) (Ev.step (fun k => by rw [impl_TurnMatrix.j0]) ?_))
      rw [e0]
      by_cases h1 : m.getD 0 [] = []
      · refine ev_pos (by rw [h1]; rfl) (ev_val ?_)
        rw [if_neg (fun h => h.2.2 h1)]
      · have hp : 0 < (m.getD 0 []).length := List.length_pos_iff.2 h1
        refine ev_neg (by rw [beq_iff_eq]; omega) ?_
        rw [if_pos ⟨hM, h0, h1⟩]
        have hc9 : (m.getD 0 []).length ≤ 9 := by
          have := (hM.2.1 _ (rows_mem m 0 hlen)).2.1
          rwa [show rd_L1 m ((0 : Nat) : Int) = m.getD 0 [] from rows_nat m 0] at this
        have h9 := hM.1
        refine ev_pos (by omega) (ev_pos (by omega) (ev_pos (by omega) ?_))
        have es : List.replicate ((m.getD 0 []).length : Int).toNat ([] : List Int) = part m 0 0 := by
          rw [Int.toNat_natCast]
          refine List.ext_getElem (by simp [part]) fun q h1 h2 => ?_
          simp [part]
        rw [es]
        refine downTo (P := fun i => Ev (fun k => impl_TurnMatrix.l0 k (part m i 0) m (m.length : Int) (i : Int)) (cols m, true)) m.length ?_ ?_ 0 (by omega)
        · refine Ev.step (fun k => by rw [impl_TurnMatrix.l0]) (ev_neg (by omega) (ev_val ?_))
          simp [part, cols]
        · intro i hi ih
          have hr := mat_row hM i hi
          refine Ev.step (fun k => by rw [impl_TurnMatrix.l0]) (ev_pos (by omega) (ev_pos (by omega) (ev_pos (by omega) ?_)))
          rw [hr]
          refine downTo (P := fun j => Ev (fun k => impl_TurnMatrix.l1 k (part m i j) m (m.length : Int) (i : Int) (rd_L1 m (i : Int)) ((m.getD 0 []).length : Int) (j : Int)) (cols m, true)) (m.getD 0 []).length ?_ ?_ 0 (by omega)
          · refine Ev.step (fun k => by rw [impl_TurnMatrix.l1]) (ev_neg (by omega) ?_)
            rw [wrap_succ (by omega), part_next]
            exact ih
          · intro j hj ihj
            refine Ev.step (fun k => by rw [impl_TurnMatrix.l1]) (ev_pos (by omega) (ev_pos (by omega) (ev_pos (by omega) (ev_pos (by rw [part_length]; omega) (ev_pos ?_ ?_)))))
            · rw [part_row m i j j hj]
              simp
              omega
            · rw [Int.toNat_natCast, part_set m i j hi hj, wrap_succ (by omega)]
              exact ihj
  · refine ev_neg (by simp [hM]) (Ev.step (fun k => by rw [impl_TurnMatrix.j0]) (ev_pos rfl (ev_val ?_)))
    rw [if_neg (fun h => hM h.1)]
theorem bulk_le {l : List (List Int)} {b : Nat} (h : ∀ r ∈ l, r.length ≤ b) : bulk l ≤ l.length * b := by
  induction l with
  | nil => simp [bulk]
  | cons r l ih =>
    have h1 := h r (by simp)
    have h2 := ih (fun y hy => h y (by simp [hy]))
    simp only [bulk, List.length_cons, Nat.succ_mul]
    omega
end Go.Proofs.Ytekjnjejgefbhaa.Q
