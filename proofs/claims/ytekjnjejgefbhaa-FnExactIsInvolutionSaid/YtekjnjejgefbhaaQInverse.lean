/- InverseOf and IsInvolution, of the program and of the reference, are the same functions; condition: at most 2^20 elements. -/
import Derived.Test.YtekjnjejgefbhaaF0
import Derived.Test.YtekjnjejgefbhaaF3
import Derived.Test.YtekjnjejgefbhaaF4
import Derived.Test.YtekjnjejgefbhaaQBase
import Derived.Test.YtekjnjejgefbhaaQOnce
import Derived.Test.YtekjnjejgefbhaaQIsWord
import Derived.Test.YtekjnjejgefbhaaQStandardize
import Derived.Test.YtekjnjejgefbhaaQContains
import Derived.Test.YtekjnjejgefbhaaQAreOnce
import Derived.Test.YtekjnjejgefbhaaQSame
set_option linter.unusedVariables false
set_option linter.unusedSimpArgs false
namespace Go.Proofs.Ytekjnjejgefbhaa.Q
open Go.RowKit Go.Proofs.Ytekjnjejgefbhaa.F Go.Proofs.YtekjnjejgefbhaaW.PrintWords Go.Proofs.YtekjnjejgefbhaaW.PrintLast Go.Proofs.YtekjnjejgefbhaaW.PrintMore
/-- the list in which, for each index i, the place l[i] holds i + 1 -/
def invTo (l : List Int) : Nat → List Int
  | 0 => List.replicate l.length 0
  | i + 1 => (invTo l i).set (rd l (i : Int) - 1).toNat ((i + 1 : Nat) : Int)
theorem invTo_length (l : List Int) (i : Nat) : (invTo l i).length = l.length := by
  induction i with
  | zero => simp [invTo]
  | succ i ih => simp [invTo, ih]
def inverse (l : List Int) : List Int × Bool := if isWord l && areOnce l then (invTo l l.length, true) else ([], false)
theorem inverse_le (l : List Int) : (inverse l).1.length ≤ 9 := by
  unfold inverse
  split
  · rename_i h
    rw [Bool.and_eq_true] at h
    rw [invTo_length]; exact (isWord_iff.1 h.1).1
  · simp
theorem once_bd {l : List Int} (hw : isWord l = true) (ho : areOnce l = true) (i : Nat) (hi : i < l.length) : 1 ≤ rd l (i : Int) ∧ rd l (i : Int) ≤ (l.length : Int) := by
  have hp := fun x hx => ((isWord_iff.1 hw).2 x hx).1
  have h2 := ((once_iff hp).1 (areOnce_iff.1 ho)).2
  have hm := rd_mem l i hi
  exact ⟨hp _ hm, h2 _ hm⟩
theorem std_once {l : List Int} (hw : isWord l = true) : decide (standardize l = l) = areOnce l := by
  have hp := fun x hx => ((isWord_iff.1 hw).2 x hx).1
  unfold standardize
  rw [if_pos hw, Bool.eq_iff_iff, decide_eq_true_eq, places_iff hp, areOnce_iff]
theorem wrap_pred {x : Int} (h1 : 1 ≤ x) (h2 : x ≤ 9) : wrap64 (x - 1) = x - 1 := by unfold wrap64; omega
theorem spec_InverseOf_ev (l : List Int) (hl : l.length ≤ 1048576) : Ev (fun k => spec_InverseOf.f k l) (inverse l) := by
  unfold spec_InverseOf.f
  refine Ev.bind (spec_IsWord_ev l hl) (ev_ite (fun hw => ?_) (fun hw => ?_))
  · refine Ev.bind (spec_StandardizeWord_ev l hl) (Ev.bind (spec_l2Same_ev _ l (by have := standardize_le l; omega)) (Ev.step (fun k => by rw [spec_InverseOf.j0]) ?_))
    rw [std_once hw]
    have h9 := (isWord_iff.1 hw).1
    by_cases ho : areOnce l = true
    · refine ev_neg (by simp [ho]) (ev_pos (by omega) (ev_pos (by simp; omega) ?_))
      rw [show inverse l = (invTo l l.length, true) by simp [inverse, hw, ho]]
      refine downTo (P := fun i => Ev (fun k => spec_InverseOf.l0 k l (invTo l i) (i : Int)) (invTo l l.length, true)) l.length ?_ ?_ 0 (by omega)
      · refine Ev.step (fun k => by rw [spec_InverseOf.l0]) ?_
        exact ev_neg (by omega) (ev_val rfl)
      · intro i hi ih
        obtain ⟨b1, b2⟩ := once_bd hw ho i hi
        refine Ev.step (fun k => by rw [spec_InverseOf.l0]) ?_
        rw [wrap_pred b1 (by omega), wrap_succ (by omega)]
        refine ev_pos (by omega) (ev_pos (by omega) (ev_pos (by omega) (ev_pos (by rw [invTo_length]; omega) ih)))
    · simp only [Bool.not_eq_true] at ho
      exact ev_pos (by simp [ho]) (ev_val (by simp [inverse, ho]))
  · refine Ev.step (fun k => by rw [spec_InverseOf.j0]) ?_
    exact ev_pos rfl (ev_val (by simp [inverse, hw]))
theorem impl_InverseOf_ev (l : List Int) (hl : l.length ≤ 1048576) : Ev (fun k => impl_InverseOf.f k l) (inverse l) := by
  unfold impl_InverseOf.f
  refine ev_bindc (impl_IsWord_eq l) (ev_ite (fun hw => ?_) (fun hw => ?_))
  · refine Ev.bind (impl_areOnce_ev l hl) (Ev.step (fun k => by rw [impl_InverseOf.j0]) ?_)
    have h9 := (isWord_iff.1 hw).1
    by_cases ho : areOnce l = true
    · refine ev_neg (by simp [ho]) (ev_pos (by omega) (ev_pos (by simp; omega) ?_))
      rw [show inverse l = (invTo l l.length, true) by simp [inverse, hw, ho]]
      refine downTo (P := fun i => Ev (fun k => impl_InverseOf.l0 k (invTo l i) l (l.length : Int) (i : Int)) (invTo l l.length, true)) l.length ?_ ?_ 0 (by omega)
      · refine Ev.step (fun k => by rw [impl_InverseOf.l0]) ?_
        exact ev_neg (by omega) (ev_val rfl)
      · intro i hi ih
        obtain ⟨b1, b2⟩ := once_bd hw ho i hi
        refine Ev.step (fun k => by rw [impl_InverseOf.l0]) ?_
        rw [wrap_pred b1 (by omega), wrap_succ (by omega)]
        refine ev_pos (by omega) (ev_pos (by omega) (ev_pos (by omega) (ev_pos (by omega) (ev_pos (by rw [invTo_length]; omega) ih))))
    · simp only [Bool.not_eq_true] at ho
      exact ev_pos (by simp [ho]) (ev_val (by simp [inverse, ho]))
  · refine Ev.step (fun k => by rw [impl_InverseOf.j0]) ?_
    exact ev_pos rfl (ev_val (by simp [inverse, hw]))
end Go.Proofs.Ytekjnjejgefbhaa.Q
