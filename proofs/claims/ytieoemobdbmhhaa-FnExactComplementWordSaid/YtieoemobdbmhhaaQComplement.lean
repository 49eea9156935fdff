/- ComplementWord, of the program and of the reference, are one function; condition: at most 2^20 elements. -/
import Derived.Test.YtieoemobdbmhhaaF0
import Derived.Test.YtieoemobdbmhhaaF1
import Derived.Test.YtieoemobdbmhhaaF4
import Derived.Test.YtieoemobdbmhhaaQBase
import Derived.Test.YtieoemobdbmhhaaQOnce
import Derived.Test.YtieoemobdbmhhaaQIsWord
set_option linter.unusedVariables false
set_option linter.unusedSimpArgs false
namespace Go.Proofs.Ytieoemobdbmhhaa.Q
open Go.RowKit Go.Proofs.Ytieoemobdbmhhaa.F Go.Proofs.YtieoemobdbmhhaaW.PrintWords Go.Proofs.YtieoemobdbmhhaaW.PrintLast Go.Proofs.YtieoemobdbmhhaaW.PrintMore
theorem complement_isWord (l : List Int) (n : Int) : complement l n = if isWord l && decide (1 ≤ n ∧ n ≤ 9) && !l.any (fun x => decide (x > n)) then (l.map (fun x => n + 1 - x), true) else ([], false) := by
  have e : (decide (l.length ≤ 9) && !l.any (fun x => !decide (1 ≤ x ∧ x ≤ 9))) = isWord l := by
    have := impl_IsWord_eq l
    unfold impl_IsWord.f at this
    exact Option.some.inj this
  unfold complement
  rw [e]
theorem complement_le (l : List Int) (n : Int) : (complement l n).1.length ≤ 9 := by
  rw [complement_isWord]
  split
  · rename_i h
    simp only [Bool.and_eq_true] at h
    simpa using (isWord_iff.1 h.1.1).1
  · simp
theorem spec_ComplementWord_ev (l : List Int) (n : Int) (hl : l.length ≤ 1048576) : Ev (fun k => spec_ComplementWord.f k l n) (complement l n) := by
  rw [complement_isWord]
  unfold spec_ComplementWord.f
  refine ev_bindc rfl (Ev.bind (spec_IsWord_ev l hl) (ev_ite (fun hw => ?_) (fun hw => ?_)))
  · refine ev_bindc (spec_l1In_eq _ _ _) (Ev.step (fun k => by rw [spec_ComplementWord.j0]) ?_)
    rw [hw, Bool.true_and]
    have h9 := isWord_iff.1 hw
    by_cases hn : 1 ≤ n ∧ n ≤ 9
    · rw [decide_eq_true hn, Bool.true_and]
      refine ev_neg (by simp) ?_
      by_cases ha : l.any (fun x => decide (x > n)) = true
      · rw [if_neg (by rw [ha]; simp)]
        have key : ∀ i, i ≤ l.length → ∀ acc : List Int, acc.length ≤ i → (l.drop i).any (fun x => decide (x > n)) = true → Ev (fun k => spec_ComplementWord.l0 k l n acc (i : Int)) ([], false) := by
          refine downTo l.length ?_ ?_
          · intro acc _ h; rw [List.drop_length] at h; simp at h
          · intro i hi ih acc hacc h
            refine Ev.step (fun k => by rw [spec_ComplementWord.l0]) ?_
            refine ev_pos (by omega) (ev_pos (by omega) (ev_ite (fun hc => ev_val rfl) (fun hc => ev_pos (by omega) ?_)))
            rw [wrap_succ (by omega)]
            refine ih _ (by simp; omega) ?_
            rw [drop_rd l i hi, List.any_cons, decide_eq_false hc, Bool.false_or] at h
            exact h
        exact key 0 (by omega) [] (by simp) (by simpa using ha)
      · simp only [Bool.not_eq_true] at ha
        rw [if_pos (by rw [ha]; rfl)]
        have hle : ∀ x ∈ l, x ≤ n := by
          intro x hx
          have := List.any_eq_false.1 ha x hx
          simpa using this
        have key : ∀ i, i ≤ l.length → Ev (fun k => spec_ComplementWord.l0 k l n ((l.take i).map (fun x => n + 1 - x)) (i : Int)) (l.map (fun x => n + 1 - x), true) := by
          refine downTo l.length ?_ ?_
          · refine Ev.step (fun k => by rw [spec_ComplementWord.l0]) ?_
            refine ev_neg (by omega) (ev_val (by rw [List.take_length]))
          · intro i hi ih
            have hm := rd_mem l i hi
            have b1 := h9.2 _ hm
            have b2 := hle _ hm
            refine Ev.step (fun k => by rw [spec_ComplementWord.l0]) ?_
            refine ev_pos (by omega) (ev_pos (by omega) (ev_neg (by omega) (ev_pos (by simp; omega) ?_)))
            rw [wrap_succ (by omega), wrap_id (i := n + 1) (by omega) (by omega), wrap_id (by omega) (by omega)]
            rw [take_rd l i hi, List.map_append] at ih
            exact ih
        exact key 0 (by omega)
    · rw [decide_eq_false hn]
      exact ev_pos rfl (ev_val rfl)
  · simp only [Bool.not_eq_true] at hw
    refine Ev.step (fun k => by rw [spec_ComplementWord.j0]) ?_
    refine ev_pos rfl (ev_val ?_)
    rw [hw]; rfl
theorem impl_ComplementWord_eq (l : List Int) (n : Int) : impl_ComplementWord.f l n = some (complement l n) := rfl
end Go.Proofs.Ytieoemobdbmhhaa.Q
