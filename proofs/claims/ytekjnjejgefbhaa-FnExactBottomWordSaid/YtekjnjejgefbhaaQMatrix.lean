/- IsMatrix, of the program and of the reference: one and the same property of lists of lists; condition: at most 2^20 elements in all. -/
import Derived.Test.YtekjnjejgefbhaaF0
import Derived.Test.YtekjnjejgefbhaaF2
import Derived.Test.YtekjnjejgefbhaaF3
import Derived.Test.YtekjnjejgefbhaaQBase
import Derived.Test.YtekjnjejgefbhaaQRows
import Derived.Test.YtekjnjejgefbhaaQSum
import Derived.Test.YtekjnjejgefbhaaQIsIn
set_option linter.unusedVariables false
set_option linter.unusedSimpArgs false
namespace Go.Proofs.Ytekjnjejgefbhaa.Q
open Go.RowKit Go.Proofs.Ytekjnjejgefbhaa.F Go.Proofs.YtekjnjejgefbhaaW.PrintWords Go.Proofs.YtekjnjejgefbhaaW.PrintLast Go.Proofs.YtekjnjejgefbhaaW.PrintMore
/-- at most nine rows, of one length of at most nine, of numbers from 0 to 9, with a sum of at most 9 -/
def IsMat (m : List (List Int)) : Prop := m.length ≤ 9 ∧ (∀ r ∈ m, r.length = (m.getD 0 []).length ∧ r.length ≤ 9 ∧ ∀ x ∈ r, 0 ≤ x ∧ x ≤ 9) ∧ msum m ≤ 9
instance (m : List (List Int)) : Decidable (IsMat m) := by unfold IsMat; infer_instance
theorem row_any (r : List Int) : (r.any (fun x => !decide (0 ≤ x ∧ x ≤ 9)) = true) ↔ ¬ ∀ x ∈ r, 0 ≤ x ∧ x ≤ 9 := by
  rw [List.any_eq_true]
  constructor
  · rintro ⟨x, hx, h⟩ g
    rw [decide_eq_true (g x hx)] at h
    cases h
  · intro h
    apply Classical.byContradiction
    intro hn
    refine h (fun x hx => Classical.byContradiction fun hc => hn ⟨x, hx, ?_⟩)
    rw [decide_eq_false hc]; rfl
theorem isMatrixRows_ev (n : Nat) : ∀ (m : List (List Int)) (all : Int), 0 ≤ all → all + 81 * (m.length : Int) ≤ 1000 → ∃ b, Ev (fun k => isMatrixRows k n m all) b ∧ (b = true ↔ (∀ r ∈ m, r.length = n ∧ r.length ≤ 9 ∧ ∀ x ∈ r, 0 ≤ x ∧ x ≤ 9) ∧ all + msum m ≤ 9) := by
  intro m
  induction m with
  | nil =>
    intro all a b
    exact ⟨decide (all ≤ 9), by simp only [isMatrixRows]; exact ev_val rfl, by simp [msum]⟩
  | cons r m ih =>
    intro all a b
    simp only [List.length_cons] at b
    by_cases h1 : r.length = n
    · by_cases h2 : r.length ≤ 9
      · by_cases h3 : ∀ x ∈ r, 0 ≤ x ∧ x ≤ 9
        · have s0 := isum_nonneg (fun x hx => (h3 x hx).1)
          have s1 := isum_le (b := 9) (fun x hx => (h3 x hx).2)
          have s2 : isum r ≤ 81 := by
            have : 9 * r.length ≤ 81 := by omega
            omega
          obtain ⟨v, hv, hp⟩ := ih (all + isum r) (by omega) (by omega)
          refine ⟨v, ?_, ?_⟩
          · simp only [isMatrixRows]
            refine ev_pos h1 (ev_pos h2 (ev_neg (fun h => (row_any r).1 h h3) (Ev.bind (impl_sum_ev r (by omega) (fun x hx => ⟨(h3 x hx).1, by have := (h3 x hx).2; omega⟩)) ?_)))
            rw [wrap_id (by omega) (by omega)]
            exact hv
          · rw [hp]
            simp only [List.mem_cons, forall_eq_or_imp, msum]
            constructor
            · rintro ⟨g1, g2⟩; exact ⟨⟨⟨h1, h2, h3⟩, g1⟩, by omega⟩
            · rintro ⟨⟨_, g1⟩, g2⟩; exact ⟨g1, by omega⟩
        · refine ⟨false, ?_, ?_⟩
          · simp only [isMatrixRows]
            exact ev_pos h1 (ev_pos h2 (ev_pos ((row_any r).2 h3) (ev_val rfl)))
          · simp only [List.mem_cons, forall_eq_or_imp]
            constructor
            · intro h; cases h
            · rintro ⟨⟨⟨_, _, g⟩, _⟩, _⟩; exact absurd g h3
      · refine ⟨false, ?_, ?_⟩
        · simp only [isMatrixRows]; exact ev_pos h1 (ev_neg h2 (ev_val rfl))
        · simp only [List.mem_cons, forall_eq_or_imp]
          constructor
          · intro h; cases h
          · rintro ⟨⟨⟨_, g, _⟩, _⟩, _⟩; exact absurd g h2
    · refine ⟨false, ?_, ?_⟩
      · simp only [isMatrixRows]; exact ev_neg h1 (ev_val rfl)
      · simp only [List.mem_cons, forall_eq_or_imp]
        constructor
        · intro h; cases h
        · rintro ⟨⟨⟨g, _, _⟩, _⟩, _⟩; exact absurd g h1
theorem impl_IsMatrix_ev (m : List (List Int)) : Ev (fun k => impl_IsMatrix.f k m) (decide (IsMat m)) := by
  unfold impl_IsMatrix.f
  refine ev_ite (fun h => ?_) (fun h => ev_val ?_)
  · obtain ⟨b, hb, hp⟩ := isMatrixRows_ev (m.getD 0 []).length m 0 (by omega) (by omega)
    refine ev_eq hb ?_
    rw [Bool.eq_iff_iff, hp, decide_eq_true_eq]
    unfold IsMat
    constructor
    · rintro ⟨g1, g2⟩; exact ⟨h, g1, by omega⟩
    · rintro ⟨_, g1, g2⟩; exact ⟨g1, by omega⟩
  · symm; rw [decide_eq_false_iff_not]; rintro ⟨g, _⟩; exact h g
theorem spec_IsMatrix_l1 (m : List (List Int)) (hm : m.length ≤ 1048576) (hr : ∀ r ∈ m, r.length ≤ 1048576) (i : Nat) (hi : i < m.length) (r : Bool) :
    ∀ j, j ≤ (rd_L1 m (i : Int)).length → ∀ s : Int, 0 ≤ s → s ≤ 9 →
    ((∀ x ∈ (rd_L1 m (i : Int)).drop j, 0 ≤ x ∧ x ≤ 9) → s + isum ((rd_L1 m (i : Int)).drop j) ≤ 9 → Ev (fun k => spec_IsMatrix.l0 k m (s + isum ((rd_L1 m (i : Int)).drop j)) ((i + 1 : Nat) : Int)) r) →
    (¬ ((∀ x ∈ (rd_L1 m (i : Int)).drop j, 0 ≤ x ∧ x ≤ 9) ∧ s + isum ((rd_L1 m (i : Int)).drop j) ≤ 9) → r = false) →
    Ev (fun k => spec_IsMatrix.l1 k m s (i : Int) (j : Int)) r := by
  have hrow := hr _ (rows_mem m i hi)
  refine downTo _ ?_ ?_
  · intro s s0 s9 hgood hbad
    rw [List.drop_length] at hgood
    refine Ev.step (fun k => by rw [spec_IsMatrix.l1]) ?_
    refine ev_pos (by omega) (ev_pos (by omega) (ev_neg (by omega) ?_))
    rw [wrap_succ (by omega)]
    have := hgood (by simp) (by simp [isum]; omega)
    simpa [isum] using this
  · intro j hj ih s s0 s9 hgood hbad
    refine Ev.step (fun k => by rw [spec_IsMatrix.l1]) ?_
    refine ev_pos (by omega) (ev_pos (by omega) (ev_pos (by omega) (ev_pos (by omega) (ev_bindc (spec_l1In_eq _ _ _) ?_))))
    rw [drop_rd _ j hj] at hgood hbad
    generalize rd (rd_L1 m (i : Int)) (j : Int) = x at hgood hbad ⊢
    simp only [isum] at hgood hbad
    by_cases hx : 0 ≤ x ∧ x ≤ 9
    · refine ev_pos (decide_eq_true hx) ?_
      rw [wrap_id (i := s + x) (by omega) (by omega), wrap_succ (by omega)]
      by_cases h9 : s + x > 9
      · refine ev_pos h9 (ev_val ?_)
        symm; apply hbad
        rintro ⟨g1, g2⟩
        have := isum_nonneg (l := (rd_L1 m (i : Int)).drop (j + 1)) (fun y hy => (g1 y (by simp [hy])).1)
        omega
      · refine ev_neg h9 (ih (s + x) (by omega) (by omega) (fun g1 g2 => ?_) (fun g => ?_))
        · have := hgood (fun y hy => by rcases List.mem_cons.1 hy with rfl | hy; exact hx; exact g1 y hy) (by omega)
          rw [show s + (x + isum ((rd_L1 m (i : Int)).drop (j + 1))) = s + x + isum ((rd_L1 m (i : Int)).drop (j + 1)) by omega] at this
          exact this
        · apply hbad
          rintro ⟨g1, g2⟩
          exact g ⟨fun y hy => g1 y (by simp [hy]), by omega⟩
    · refine ev_neg (by rw [decide_eq_true_eq]; exact hx) (ev_val ?_)
      symm; apply hbad
      rintro ⟨g1, _⟩
      exact hx (g1 x (by simp))
theorem spec_IsMatrix_ev (m : List (List Int)) (hm : m.length ≤ 1048576) (hr : ∀ r ∈ m, r.length ≤ 1048576) : Ev (fun k => spec_IsMatrix.f k m) (decide (IsMat m)) := by
  have key : ∀ i, i ≤ m.length → ∀ s : Int, 0 ≤ s → s ≤ 9 → ∃ b, Ev (fun k => spec_IsMatrix.l0 k m s (i : Int)) b ∧ (b = true ↔ m.length ≤ 9 ∧ (m ≠ [] → (m.getD 0 []).length ≤ 9) ∧ (∀ r ∈ m.drop i, r.length = (m.getD 0 []).length ∧ ∀ x ∈ r, 0 ≤ x ∧ x ≤ 9) ∧ s + msum (m.drop i) ≤ 9) := by
    refine downTo m.length ?_ ?_
    · intro s s0 s9
      rw [List.drop_length]
      by_cases h1 : m.length ≤ 9
      · by_cases h2 : m.length = 0
        · refine ⟨true, ?_, ?_⟩
          · refine Ev.step (fun k => by rw [spec_IsMatrix.l0]) ?_
            exact ev_neg (by omega) (ev_pos (by omega) (ev_pos (by omega) (ev_val rfl)))
          · have : m = [] := List.length_eq_zero_iff.1 h2
            simp [this, msum, s9]
        · have e0 : rd_L1 m 0 = m.getD 0 [] := rows_nat m 0
          refine ⟨decide (((rd_L1 m 0).length : Int) ≤ 9), ?_, ?_⟩
          · refine Ev.step (fun k => by rw [spec_IsMatrix.l0]) ?_
            exact ev_neg (by omega) (ev_pos (by omega) (ev_neg (by omega) (ev_pos (by omega) (ev_val rfl))))
          · rw [e0, decide_eq_true_eq]
            have hne : m ≠ [] := fun e => h2 (by rw [e]; rfl)
            constructor
            · intro g; exact ⟨h1, fun _ => by omega, by simp, by simp [msum]; omega⟩
            · rintro ⟨_, g, _⟩; have := g hne; omega
      · refine ⟨false, ?_, ?_⟩
        · refine Ev.step (fun k => by rw [spec_IsMatrix.l0]) ?_
          exact ev_neg (by omega) (ev_neg (by omega) (ev_val rfl))
        · constructor
          · intro h; cases h
          · rintro ⟨g, _⟩; exact absurd g h1
    · intro i hi ih s s0 s9
      have e0 : rd_L1 m 0 = m.getD 0 [] := rows_nat m 0
      have hd := drop_rows m i hi
      by_cases hlen : (rd_L1 m (i : Int)).length = (m.getD 0 []).length
      · by_cases hgood : (∀ x ∈ rd_L1 m (i : Int), 0 ≤ x ∧ x ≤ 9) ∧ s + isum (rd_L1 m (i : Int)) ≤ 9
        · have s1 := isum_nonneg (fun x hx => (hgood.1 x hx).1)
          obtain ⟨b, hb, hp⟩ := ih (s + isum (rd_L1 m (i : Int))) (by omega) hgood.2
          refine ⟨b, ?_, ?_⟩
          · refine Ev.step (fun k => by rw [spec_IsMatrix.l0]) ?_
            refine ev_pos (by omega) (ev_pos (by omega) (ev_pos (by omega) (ev_pos (by rw [e0]; omega) ?_)))
            refine spec_IsMatrix_l1 m hm hr i hi b 0 (by omega) s s0 s9 (fun _ _ => ?_) (fun g => ?_)
            · rw [List.drop_zero]; exact hb
            · rw [List.drop_zero] at g; exact absurd hgood g
          · rw [hp, hd]
            simp only [List.mem_cons, forall_eq_or_imp, msum]
            constructor
            · rintro ⟨g1, g2, g3, g4⟩; exact ⟨g1, g2, ⟨⟨hlen, hgood.1⟩, g3⟩, by omega⟩
            · rintro ⟨g1, g2, ⟨_, g3⟩, g4⟩; exact ⟨g1, g2, g3, by omega⟩
        · refine ⟨false, ?_, ?_⟩
          · refine Ev.step (fun k => by rw [spec_IsMatrix.l0]) ?_
            refine ev_pos (by omega) (ev_pos (by omega) (ev_pos (by omega) (ev_pos (by rw [e0]; omega) ?_)))
            refine spec_IsMatrix_l1 m hm hr i hi false 0 (by omega) s s0 s9 (fun g1 g2 => ?_) (fun _ => rfl)
            rw [List.drop_zero] at g1 g2
            exact absurd ⟨g1, g2⟩ hgood
          · rw [hd]
            simp only [List.mem_cons, forall_eq_or_imp, msum]
            constructor
            · intro h; cases h
            · rintro ⟨_, _, ⟨⟨_, g3⟩, g5⟩, g4⟩
              exfalso; apply hgood
              have := msum_nonneg (fun r hr x hx => ((g5 r hr).2 x hx).1)
              exact ⟨g3, by omega⟩
      · refine ⟨false, ?_, ?_⟩
        · refine Ev.step (fun k => by rw [spec_IsMatrix.l0]) ?_
          exact ev_pos (by omega) (ev_pos (by omega) (ev_pos (by omega) (ev_neg (by rw [e0]; omega) (ev_val rfl))))
        · rw [hd]
          simp only [List.mem_cons, forall_eq_or_imp]
          constructor
          · intro h; cases h
          · rintro ⟨_, _, ⟨⟨g, _⟩, _⟩, _⟩; exact absurd g hlen
  unfold spec_IsMatrix.f
  obtain ⟨b, hb, hp⟩ := key 0 (by omega) 0 (by omega) (by omega)
  refine ev_eq hb ?_
  rw [Bool.eq_iff_iff, hp, decide_eq_true_eq, List.drop_zero]
  unfold IsMat
  constructor
  · rintro ⟨g1, g2, g3, g4⟩
    refine ⟨g1, fun r hr => ?_, by omega⟩
    have hne : m ≠ [] := fun e => by rw [e] at hr; simp at hr
    have := g2 hne
    have h3 := g3 r hr
    exact ⟨h3.1, by omega, h3.2⟩
  · rintro ⟨g1, g2, g3⟩
    refine ⟨g1, fun hne => ?_, fun r hr => ⟨(g2 r hr).1, (g2 r hr).2.2⟩, by omega⟩
    cases m with
    | nil => exact absurd rfl hne
    | cons r m => exact (g2 r (by simp)).2.1
end Go.Proofs.Ytekjnjejgefbhaa.Q
