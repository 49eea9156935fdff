/- What the law's helpers that mark a list of whole numbers, and look at the marks, return; condition: at most 2^60 elements, the first mark at most 2^61. -/
import Derived.Test.YtekjnjejgefbhaaF0
import Derived.Test.YtekjnjejgefbhaaF1
import Derived.Test.YtekjnjejgefbhaaQBase
import Derived.Test.YtekjnjejgefbhaaQOnce
set_option linter.unusedVariables false
set_option linter.unusedSimpArgs false
namespace Go.Proofs.Ytekjnjejgefbhaa.Q
open Go.RowKit Go.Proofs.Ytekjnjejgefbhaa.F Go.Proofs.YtekjnjejgefbhaaW.PrintWords Go.Proofs.YtekjnjejgefbhaaW.PrintLast Go.Proofs.YtekjnjejgefbhaaW.PrintMore
/-- m, m + 1 and so on, n of them -/
def marks (m n : Nat) : List Int := (List.range n).map (fun i => ((m + i : Nat) : Int))
theorem marks_length (m n : Nat) : (marks m n).length = n := by simp [marks]
theorem marks_succ (m n : Nat) : marks m (n + 1) = marks m n ++ [((m + n : Nat) : Int)] := by simp [marks, List.range_succ]
theorem marks_rd (m n i : Nat) (h : i < n) : rd (marks m n) (i : Int) = ((m + i : Nat) : Int) := by
  rw [rd_eq _ i (by rw [marks_length]; exact h)]; simp [marks]
theorem markIntS_ev (l : List Int) (m : Nat) (hl : l.length ≤ 1152921504606846976) (hm : m ≤ 2305843009213693952) : Ev (fun k => laws_markIntS.f k l (m : Int)) (((m + l.length : Nat) : Int), marks m l.length) := by
  unfold laws_markIntS.f
  refine downTo (P := fun i => Ev (fun k => laws_markIntS.l0 k (marks m i ++ l.drop i) ((m + i : Nat) : Int) (i : Int)) (((m + l.length : Nat) : Int), marks m l.length)) l.length ?_ ?_ 0 (by omega)
  · refine Ev.step (fun k => by rw [laws_markIntS.l0]) ?_
    rw [List.drop_length, List.append_nil]
    exact ev_neg (by rw [marks_length]; omega) (ev_val rfl)
  · intro i hi ih
    refine Ev.step (fun k => by rw [laws_markIntS.l0]) ?_
    refine ev_pos (by simp [marks_length]; omega) (ev_pos (by omega) ?_)
    have e : (marks m i ++ l.drop i).set (i : Int).toNat ((m + i : Nat) : Int) = marks m (i + 1) ++ l.drop (i + 1) := by
      rw [Int.toNat_natCast, List.set_append_right _ _ (by rw [marks_length]; omega), marks_length, Nat.sub_self, drop_rd l i hi, marks_succ]
      simp
    rw [e, wrap_succ (by omega), wrap_succ (by omega)]
    exact ih
theorem heldIntS_ev (m n : Nat) (hl : n ≤ 1152921504606846976) (hm : m ≤ 2305843009213693952) : Ev (fun k => laws_heldIntS.f k (marks m n) (m : Int)) ((m + n : Nat) : Int) := by
  unfold laws_heldIntS.f
  refine downTo (P := fun i => Ev (fun k => laws_heldIntS.l0 k (marks m n) ((m + i : Nat) : Int) (i : Int)) ((m + n : Nat) : Int)) n ?_ ?_ 0 (by omega)
  · refine Ev.step (fun k => by rw [laws_heldIntS.l0]) ?_
    exact ev_neg (by rw [marks_length]; omega) (ev_val rfl)
  · intro i hi ih
    refine Ev.step (fun k => by rw [laws_heldIntS.l0]) ?_
    refine ev_pos (by rw [marks_length]; omega) (ev_pos (by omega) (ev_pos (marks_rd m n i hi) ?_))
    rw [wrap_succ (by omega), wrap_succ (by omega)]
    exact ih
end Go.Proofs.Ytekjnjejgefbhaa.Q
