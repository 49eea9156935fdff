/- An element of a list with 0 behind its end, and partitions: the program's and the reference's functions are the same; condition: at most 2^20 elements. -/
import Derived.Test.YtaghidcmefbjdaaDoorF0
import Derived.Test.YtaghidcmefbjdaaDoorF1
import Derived.Test.YtaghidcmefbjdaaDoorF3
import Derived.Test.YtaghidcmefbjdaaDoorQBase
import Derived.Test.YtaghidcmefbjdaaDoorQOnce
import Derived.Test.YtaghidcmefbjdaaDoorQRows
import Derived.Test.YtaghidcmefbjdaaDoorQIsIn
set_option linter.unusedVariables false
set_option linter.unusedSimpArgs false
namespace Go.Proofs.YtaghidcmefbjdaaDoor.Q
open Go.RowKit Go.Proofs.YtaghidcmefbjdaaDoor.F Go.Proofs.YtaghidcmefbjdaaDoorW.PrintWords Go.Proofs.YtaghidcmefbjdaaDoorW.PrintLast Go.Proofs.YtaghidcmefbjdaaDoorW.PrintMore
def at0 (l : List Int) (i : Int) : Int := if 0 ≤ i ∧ i < (l.length : Int) then rd l i else 0
theorem at0_nat (l : List Int) (i : Nat) (h : i < l.length) : at0 l (i : Int) = rd l (i : Int) := by unfold at0; rw [if_pos (by omega)]
theorem at0_out (l : List Int) (i : Int) (h : i < 0 ∨ (l.length : Int) ≤ i) : at0 l i = 0 := by unfold at0; rw [if_neg (by omega)]
theorem impl_within_eq (a b c : Int) : impl_within.f a b c = some (decide (b ≤ a ∧ a ≤ c)) := rfl
/-- the numbers go on from 'prev' without rising, each is 1 or more, with 's' they add up to at most 9 -/
def partOk (prev s : Int) : List Int → Bool
  | [] => true
  | x :: l => decide (1 ≤ x ∧ x ≤ 9) && decide (x ≤ prev) && decide (s + x ≤ 9) && partOk x (s + x) l
def isPartition (l : List Int) : Bool := partOk 9 0 l
theorem partOk_sum {l : List Int} : ∀ {prev s : Int}, s ≤ 9 → partOk prev s l = true → s + isum l ≤ 9 ∧ s + l.length ≤ 9 ∧ ∀ x ∈ l, 1 ≤ x ∧ x ≤ 9 := by
  induction l with
  | nil => intro prev s h _; simp [isum, h]
  | cons x l ih =>
    intro prev s h hp
    simp only [partOk, Bool.and_eq_true, decide_eq_true_eq] at hp
    obtain ⟨⟨⟨h1, h2⟩, h3⟩, h4⟩ := hp
    obtain ⟨g1, g2, g3⟩ := ih h3 h4
    simp only [isum, List.length_cons]
    refine ⟨by omega, by omega, fun y hy => ?_⟩
    rcases List.mem_cons.1 hy with rfl | hy
    · exact h1
    · exact g3 y hy
theorem isPartition_bd {l : List Int} (h : isPartition l = true) : isum l ≤ 9 ∧ l.length ≤ 9 ∧ ∀ x ∈ l, 1 ≤ x ∧ x ≤ 9 := by
  obtain ⟨h1, h2, h3⟩ := partOk_sum (by omega) h
  exact ⟨by omega, by omega, h3⟩
theorem bool_not_t {X : Bool} (h : true = !X) : X = false := by cases X <;> simp_all
theorem bool_not_f {X : Bool} (h : false = !X) : X = true := by cases X <;> simp_all
/-- the number ahead of index i; 9 ahead of the first -/
def before (l : List Int) (i : Nat) : Int := match i with | 0 => 9 | i + 1 => rd l (i : Int)
theorem spec_IsPartition_ev (l : List Int) (hl : l.length ≤ 1048576) : Ev (fun k => spec_IsPartition.f k l) (isPartition l) := by
  have key : ∀ i, i ≤ l.length → ∀ s : Int, 0 ≤ s → s ≤ 9 → Ev (fun k => spec_IsPartition.l0 k l s (i : Int)) (partOk (before l i) s (l.drop i)) := by
    refine downTo l.length ?_ ?_
    · intro s a b
      refine Ev.step (fun k => by rw [spec_IsPartition.l0]) ?_
      exact ev_neg (by omega) (ev_val (by rw [List.drop_length]; rfl))
    · intro i hi ih s a b
      have hstep : ∀ c : Bool, (c = !(decide (1 ≤ rd l (i : Int) ∧ rd l (i : Int) ≤ 9) && decide (rd l (i : Int) ≤ before l i))) → Ev (fun k => spec_IsPartition.j1 k l s (i : Int) c) (partOk (before l i) s (l.drop i)) := by
        intro c hc
        refine Ev.step (fun k => by rw [spec_IsPartition.j1]) ?_
        rw [drop_rd l i hi]
        simp only [partOk]
        cases c with
        | true =>
          refine ev_pos rfl (ev_val ?_)
          have : (decide (1 ≤ rd l (i : Int) ∧ rd l (i : Int) ≤ 9) && decide (rd l (i : Int) ≤ before l i)) = false := bool_not_t hc
          rw [this]; rfl
        | false =>
          have hg : (decide (1 ≤ rd l (i : Int) ∧ rd l (i : Int) ≤ 9) && decide (rd l (i : Int) ≤ before l i)) = true := bool_not_f hc
          have h1 : 1 ≤ rd l (i : Int) ∧ rd l (i : Int) ≤ 9 := by simp only [Bool.and_eq_true, decide_eq_true_eq] at hg; exact hg.1
          rw [hg, Bool.true_and, wrap_id (i := s + rd l (i : Int)) (by omega) (by omega)]
          refine ev_neg (by simp) (ev_pos (by omega) (ev_pos (by omega) (ev_ite (fun h => ev_val ?_) (fun h => ?_))))
          · rw [decide_eq_false (by omega)]; rfl
          · rw [wrap_succ (by omega), decide_eq_true (by omega), Bool.true_and]
            exact ih _ (by omega) (by omega)
      refine Ev.step (fun k => by rw [spec_IsPartition.l0]) ?_
      refine ev_pos (by omega) (ev_pos (by omega) (ev_bindc (spec_l1In_eq _ _ _) (ev_ite (fun h => ?_) (fun h => ?_))))
      · cases i with
        | zero =>
          refine ev_neg (by omega) (hstep false ?_)
          rw [decide_eq_true_eq] at h
          have h' : rd l ((0 : Nat) : Int) ≤ before l 0 := by show _ ≤ (9 : Int); omega
          rw [decide_eq_true h, decide_eq_true h']; rfl
        | succ i =>
          have e : wrap64 (((i + 1 : Nat) : Int) - 1) = (i : Int) := by unfold wrap64; omega
          rw [e]
          refine ev_pos (by omega) (ev_pos (by omega) (ev_pos (by omega) (hstep _ ?_)))
          rw [h, Bool.true_and]
          show decide (rd l ((i + 1 : Nat) : Int) > rd l (i : Int)) = !decide (rd l ((i + 1 : Nat) : Int) ≤ rd l (i : Int))
          by_cases g : rd l ((i + 1 : Nat) : Int) ≤ rd l (i : Int)
          · rw [decide_eq_true g, decide_eq_false (by omega)]; rfl
          · rw [decide_eq_false g, decide_eq_true (by omega)]; rfl
      · refine hstep true ?_
        simp only [Bool.not_eq_true] at h
        rw [h]; rfl
  unfold spec_IsPartition.f isPartition
  have := key 0 (by omega) 0 (by omega) (by omega)
  rw [List.drop_zero] at this
  exact this
theorem impl_IsPartition_ev (l : List Int) (hl : l.length ≤ 1048576) : Ev (fun k => impl_IsPartition.f k l) (isPartition l) := by
  have key : ∀ i, i ≤ l.length → ∀ s : Int, 0 ≤ s → s ≤ 9 → Ev (fun k => impl_IsPartition.l0 k l s l (l.length : Int) (i : Int)) (partOk (before l i) s (l.drop i)) := by
    refine downTo l.length ?_ ?_
    · intro s a b
      refine Ev.step (fun k => by rw [impl_IsPartition.l0]) ?_
      exact ev_neg (by omega) (ev_val (by rw [List.drop_length]; rfl))
    · intro i hi ih s a b
      have hstep : ∀ c : Bool, (c = !(decide (1 ≤ rd l (i : Int) ∧ rd l (i : Int) ≤ 9) && decide (rd l (i : Int) ≤ before l i))) → Ev (fun k => impl_IsPartition.j1 k l s (rd l (i : Int)) l (l.length : Int) (i : Int) c) (partOk (before l i) s (l.drop i)) := by
        intro c hc
        refine Ev.step (fun k => by rw [impl_IsPartition.j1]) ?_
        rw [drop_rd l i hi]
        simp only [partOk]
        cases c with
        | true =>
          refine ev_pos rfl (ev_val ?_)
          have : (decide (1 ≤ rd l (i : Int) ∧ rd l (i : Int) ≤ 9) && decide (rd l (i : Int) ≤ before l i)) = false := bool_not_t hc
          rw [this]; rfl
        | false =>
          have hg : (decide (1 ≤ rd l (i : Int) ∧ rd l (i : Int) ≤ 9) && decide (rd l (i : Int) ≤ before l i)) = true := bool_not_f hc
          have h1 : 1 ≤ rd l (i : Int) ∧ rd l (i : Int) ≤ 9 := by simp only [Bool.and_eq_true, decide_eq_true_eq] at hg; exact hg.1
          rw [hg, Bool.true_and, wrap_id (i := s + rd l (i : Int)) (by omega) (by omega)]
          refine ev_neg (by simp) (ev_ite (fun h => ev_val ?_) (fun h => ?_))
          · rw [decide_eq_false (by omega)]; rfl
          · rw [wrap_succ (by omega), decide_eq_true (by omega), Bool.true_and]
            exact ih _ (by omega) (by omega)
      refine Ev.step (fun k => by rw [impl_IsPartition.l0]) ?_
      refine ev_pos (by omega) (ev_pos (by omega) (ev_pos (by omega) (ev_bindc (impl_within_eq _ _ _) (ev_ite (fun h => ?_) (fun h => ?_)))))
      · cases i with
        | zero =>
          refine ev_neg (by omega) (hstep false ?_)
          rw [decide_eq_true_eq] at h
          have h' : rd l ((0 : Nat) : Int) ≤ before l 0 := by show _ ≤ (9 : Int); omega
          rw [decide_eq_true h, decide_eq_true h']; rfl
        | succ i =>
          have e : wrap64 (((i + 1 : Nat) : Int) - 1) = (i : Int) := by unfold wrap64; omega
          rw [e]
          refine ev_pos (by omega) (ev_pos (by omega) (ev_pos (by omega) (hstep _ ?_)))
          rw [h, Bool.true_and]
          show decide (rd l ((i + 1 : Nat) : Int) > rd l (i : Int)) = !decide (rd l ((i + 1 : Nat) : Int) ≤ rd l (i : Int))
          by_cases g : rd l ((i + 1 : Nat) : Int) ≤ rd l (i : Int)
          · rw [decide_eq_true g, decide_eq_false (by omega)]; rfl
          · rw [decide_eq_false g, decide_eq_true (by omega)]; rfl
      · refine hstep true ?_
        simp only [Bool.not_eq_true] at h
        rw [h]; rfl
  unfold impl_IsPartition.f isPartition
  have := key 0 (by omega) 0 (by omega) (by omega)
  rw [List.drop_zero] at this
  exact this
end Go.Proofs.YtaghidcmefbjdaaDoor.Q
