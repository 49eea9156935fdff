/- What the law's helpers on lists of lists of whole numbers return; condition: at most 2^20 elements in all. -/
import Derived.Test.YtfijlemaiiobaaaF0
import Derived.Test.YtfijlemaiiobaaaF1
import Derived.Test.YtfijlemaiiobaaaQBase
import Derived.Test.YtfijlemaiiobaaaQLawInts
import Derived.Test.YtfijlemaiiobaaaQRows
set_option linter.unusedVariables false
set_option linter.unusedSimpArgs false
namespace Go.Proofs.Ytfijlemaiiobaaa.Q
open Go.RowKit Go.Proofs.Ytfijlemaiiobaaa.F Go.Proofs.YtfijlemaiiobaaaW.PrintWords Go.Proofs.YtfijlemaiiobaaaW.PrintLast Go.Proofs.YtfijlemaiiobaaaW.PrintMore
theorem eqIntSS_ev (a b : List (List Int)) (hl : a.length ≤ 1152921504606846976) (hr : ∀ r ∈ a, r.length ≤ 1152921504606846976) : Ev (fun k => laws_eqIntSS.f k a b) (decide (a = b)) := by
  unfold laws_eqIntSS.f
  refine ev_ite (fun h => ?_) (fun h => ev_val ?_)
  · have := downTo (P := fun i => Ev (fun k => laws_eqIntSS.l0 k a b (i : Int)) (decide (a.drop i = b.drop i))) a.length ?_ ?_ 0 (by omega)
    · simpa using this
    · refine Ev.step (fun k => by rw [laws_eqIntSS.l0]) ?_
      refine ev_neg (by omega) (ev_val ?_)
      rw [List.drop_of_length_le (by omega), List.drop_of_length_le (by omega)]
      simp
    · intro i hi ih
      refine Ev.step (fun k => by rw [laws_eqIntSS.l0]) ?_
      refine ev_pos (by omega) (ev_pos (by omega) (ev_pos (by omega) (Ev.bind (eqIntS_ev _ _ (hr _ (rows_mem a i hi))) (ev_ite (fun he => ?_) (fun he => ev_val ?_)))))
      · rw [wrap_succ (by omega)]
        refine ev_eq ih ?_
        rw [decide_eq_true_eq] at he
        rw [drop_rows a i (by omega), drop_rows b i (by omega), he]
        simp
      · rw [decide_eq_true_eq] at he
        rw [drop_rows a i (by omega), drop_rows b i (by omega)]
        simp [he]
  · have : a ≠ b := fun e => h (by rw [e])
    simp [this]
theorem eqIntSS_same (a : List (List Int)) (hl : a.length ≤ 1048576) (hr : ∀ r ∈ a, r.length ≤ 1048576) : Ev (fun k => laws_eqIntSS.f k a a) true := ev_eq (eqIntSS_ev a a (by omega) (fun r h => by have := hr r h; omega)) (by simp)
end Go.Proofs.Ytfijlemaiiobaaa.Q
