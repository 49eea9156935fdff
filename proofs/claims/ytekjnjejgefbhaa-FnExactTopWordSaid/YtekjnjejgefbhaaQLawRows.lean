/- What the law's helpers on lists of lists of whole numbers return; condition: at most 2^20 elements in all. -/
import Derived.Test.YtekjnjejgefbhaaF0
import Derived.Test.YtekjnjejgefbhaaF1
import Derived.Test.YtekjnjejgefbhaaF2
import Derived.Test.YtekjnjejgefbhaaQBase
import Derived.Test.YtekjnjejgefbhaaQLawInts
import Derived.Test.YtekjnjejgefbhaaQRows
set_option linter.unusedVariables false
set_option linter.unusedSimpArgs false
namespace Go.Proofs.Ytekjnjejgefbhaa.Q
open Go.RowKit Go.Proofs.Ytekjnjejgefbhaa.F Go.Proofs.YtekjnjejgefbhaaW.PrintWords Go.Proofs.YtekjnjejgefbhaaW.PrintLast Go.Proofs.YtekjnjejgefbhaaW.PrintMore
theorem szIntS_eq (l : List Int) (left : Int) (h0 : 0 ≤ left) (h1 : left ≤ 1048576) (hm : l.length ≤ maxLen) : laws_szIntS.f l left = some (if left - l.length < 0 then -1 else left - l.length) := by
  unfold maxLen at hm
  unfold laws_szIntS.f
  rw [wrap_id (by omega) (by omega)]
  split <;> rfl
theorem szIntSS_ev (l : List (List Int)) (left : Int) (h0 : 0 ≤ left) (h1 : left ≤ 1048576) (hm : l.length ≤ maxLen) (hr : ∀ r ∈ l, r.length ≤ maxLen) :
    ∃ r, Ev (fun k => laws_szIntSS.f k l left) r ∧ (r < 0 ∨ (0 ≤ r ∧ r = left - (l.length : Int) - (bulk l : Int))) := by
  unfold maxLen at hm
  unfold laws_szIntSS.f
  rw [wrap_id (by omega) (by omega)]
  by_cases hneg : left - (l.length : Int) < 0
  · exact ⟨-1, ev_pos hneg (ev_val rfl), .inl (by omega)⟩
  · have key : ∀ i, i ≤ l.length → ∀ left : Int, 0 ≤ left → left ≤ 1048576 → ∃ r, Ev (fun k => laws_szIntSS.l0 k l left (i : Int)) r ∧ (r < 0 ∨ (0 ≤ r ∧ r = left - (bulk (l.drop i) : Int))) := by
      refine downTo l.length ?_ ?_
      · intro left a b
        refine ⟨left, ?_, .inr ⟨a, by rw [List.drop_length]; simp [bulk]⟩⟩
        refine Ev.step (fun k => by rw [laws_szIntSS.l0]) ?_
        exact ev_neg (by omega) (ev_val rfl)
      · intro i hi ih left a b
        have hrow := hr _ (rows_mem l i hi)
        by_cases hn : left - ((rd_L1 l (i : Int)).length : Int) < 0
        · refine ⟨-1, ?_, .inl (by omega)⟩
          refine Ev.step (fun k => by rw [laws_szIntSS.l0]) ?_
          exact ev_pos (by omega) (ev_pos (by omega) (ev_bindc (szIntS_eq _ _ a b hrow) (ev_pos (by rw [if_pos hn]; omega) (ev_val rfl))))
        · obtain ⟨r, hev, hp⟩ := ih (left - ((rd_L1 l (i : Int)).length : Int)) (by omega) (by omega)
          refine ⟨r, ?_, ?_⟩
          · refine Ev.step (fun k => by rw [laws_szIntSS.l0]) ?_
            refine ev_pos (by omega) (ev_pos (by omega) (ev_bindc (szIntS_eq _ _ a b hrow) (ev_neg (by rw [if_neg hn]; omega) ?_)))
            rw [if_neg hn, wrap_succ (by omega)]
            exact hev
          · rw [drop_rows l i hi]
            unfold bulk
            omega
    obtain ⟨r, hev, hp⟩ := key 0 (by omega) (left - (l.length : Int)) (by omega) (by omega)
    rw [List.drop_zero] at hp
    exact ⟨r, ev_neg hneg hev, hp⟩
theorem toIntSS_ev (l : List (List Int)) (hl : l.length ≤ 1048576) (hr : ∀ r ∈ l, r.length ≤ 1048576) : Ev (fun k => laws_toIntSS.f k l) l := by
  unfold laws_toIntSS.f
  refine ev_pos (by omega) (ev_pos (by simp; omega) ?_)
  have key : ∀ (d i : Nat), i + d = l.length → Ev (fun k => laws_toIntSS.l0 k l (l.take i ++ List.replicate d []) (i : Int)) l := by
    intro d
    induction d with
    | zero =>
      intro i h
      refine Ev.step (fun k => by rw [laws_toIntSS.l0]) ?_
      refine ev_neg (by omega) (ev_val ?_)
      simp [List.take_of_length_le (show l.length ≤ i by omega)]
    | succ d ih =>
      intro i h
      have hi : i < l.length := by omega
      refine Ev.step (fun k => by rw [laws_toIntSS.l0]) ?_
      refine ev_pos (by omega) (ev_pos (by omega) (Ev.bind (toIntS_ev _ (hr _ (rows_mem l i hi))) (ev_pos (by simp; omega) ?_)))
      have e : (l.take i ++ List.replicate (d + 1) []).set (i : Int).toNat (rd_L1 l (i : Int)) = l.take (i + 1) ++ List.replicate d [] := by
        rw [take_rows l i hi, List.set_append_right _ _ (by simp; omega)]
        simp [List.replicate_succ, Nat.min_eq_left (Nat.le_of_lt hi)]
      rw [e, wrap_succ (by omega)]
      exact ih (i + 1) (by omega)
  have := key l.length 0 (by omega)
  simpa using this
theorem eqIntSS_ev (a b : List (List Int)) (hl : a.length ≤ 1152921504606846976) (hr : ∀ r ∈ a, r.length ≤ 1152921504606846976) : Ev (fun k => laws_eqIntSS.f k a b) (decide (a = b)) := by
  unfold laws_eqIntSS.f
  refine ev_ite (fun h => ?_) (fun h => ev_val ?_)
  · have := downTo (P := fun i => Ev (fun k => laws_eqIntSS.l0 k a b (i : Int)) (decide (a.drop i = b.drop i))) a.length ?_ ?_ 0 (by omega)
    · simpa using this
    · refine Ev.step (fun k => by rw [laws_eqIntSS.l0]) ?_
      refine ev_neg (by omega) (ev_val ?_)
      rw [List.drop_of_length_le (by omega), List.drop_of_length_le (by omega)]
      simp
    · intro i hi ih
      refine Ev.step (fun k => by rw [laws_eqIntSS.l0]) ?_
      refine ev_pos (by omega) (ev_pos (by omega) (ev_pos (by omega) (Ev.bind (eqIntS_ev _ _ (hr _ (rows_mem a i hi))) (ev_ite (fun he => ?_) (fun he => ev_val ?_)))))
      · rw [wrap_succ (by omega)]
        refine ev_eq ih ?_
        rw [decide_eq_true_eq] at he
        rw [drop_rows a i (by omega), drop_rows b i (by omega), he]
        simp
      · rw [decide_eq_true_eq] at he
        rw [drop_rows a i (by omega), drop_rows b i (by omega)]
        simp [he]
  · have : a ≠ b := fun e => h (by rw [e])
    simp [this]
theorem eqIntSS_same (a : List (List Int)) (hl : a.length ≤ 1048576) (hr : ∀ r ∈ a, r.length ≤ 1048576) : Ev (fun k => laws_eqIntSS.f k a a) true := ev_eq (eqIntSS_ev a a (by omega) (fun r h => by have := hr r h; omega)) (by simp)
end Go.Proofs.Ytekjnjejgefbhaa.Q
