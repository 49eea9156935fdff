/- IsInside and IsShape, of the program and of the reference, are the same functions; condition: at most 2^20 elements. -/
import Derived.Test.YtljjjdgnpnnmoaaF0
import Derived.Test.YtljjjdgnpnnmoaaF2
import Derived.Test.YtljjjdgnpnnmoaaF5
import Derived.Test.YtljjjdgnpnnmoaaQBase
import Derived.Test.YtljjjdgnpnnmoaaQPart
set_option linter.unusedVariables false
set_option linter.unusedSimpArgs false
namespace Go.Proofs.Ytljjjdgnpnnmoaa.Q
open Go.RowKit Go.Proofs.Ytljjjdgnpnnmoaa.F Go.Proofs.YtljjjdgnpnnmoaaW.PrintWords Go.Proofs.YtljjjdgnpnnmoaaW.PrintLast Go.Proofs.YtljjjdgnpnnmoaaW.PrintMore
def isInside (q p : List Int) : Bool := isPartition q && isPartition p && (List.range q.length).all (fun i => decide (rd q (i : Int) ≤ at0 p (i : Int)))
theorem inside_all (q p : List Int) (i : Nat) : ((List.range q.length).all (fun i => decide (rd q (i : Int) ≤ at0 p (i : Int))) = true) ↔ ∀ j, j < q.length → rd q (j : Int) ≤ at0 p (j : Int) := by
  rw [List.all_eq_true]
  constructor
  · intro h j hj; have := h j (List.mem_range.2 hj); simpa using this
  · intro h j hj; simpa using h j (List.mem_range.1 hj)
theorem isInside_len {q p : List Int} (h : isInside q p = true) : isPartition q = true ∧ isPartition p = true ∧ q.length ≤ p.length ∧ ∀ j, j < q.length → rd q (j : Int) ≤ rd p (j : Int) := by
  unfold isInside at h
  simp only [Bool.and_eq_true] at h
  obtain ⟨⟨h1, h2⟩, h3⟩ := h
  rw [inside_all q p 0] at h3
  have hb := (isPartition_bd h1).2.2
  have hlen : q.length ≤ p.length := by
    apply Classical.byContradiction
    intro hn
    have := h3 p.length (by omega)
    rw [at0_out _ _ (.inr (by omega))] at this
    have := (hb _ (rd_mem q p.length (by omega))).1
    omega
  refine ⟨h1, h2, hlen, fun j hj => ?_⟩
  have := h3 j hj
  rwa [at0_nat p j (by omega)] at this
theorem impl_IsInside_ev (q p : List Int) (hq : q.length ≤ 1048576) (hp : p.length ≤ 1048576) : Ev (fun k => impl_IsInside.f k q p) (isInside q p) := by
  unfold impl_IsInside.f isInside
  refine Ev.bind (impl_IsPartition_ev q hq) (ev_ite (fun h1 => ?_) (fun h1 => ?_))
  · refine Ev.bind (impl_IsPartition_ev p hp) (Ev.step (fun k => by rw [impl_IsInside.j0]) ?_)
    rw [h1, Bool.true_and]
    by_cases h2 : isPartition p = true
    · rw [h2, Bool.true_and]
      refine ev_neg (by simp) ?_
      have key : ∀ i, i ≤ q.length → ∃ b, Ev (fun k => impl_IsInside.l0 k p q (q.length : Int) (i : Int)) b ∧ (b = true ↔ ∀ j, i ≤ j → j < q.length → rd q (j : Int) ≤ at0 p (j : Int)) := by
        refine downTo q.length ?_ ?_
        · refine ⟨true, ?_, by simp; intro j a b; omega⟩
          refine Ev.step (fun k => by rw [impl_IsInside.l0]) ?_
          exact ev_neg (by omega) (ev_val rfl)
        · rintro i hi ⟨b, hb, hiff⟩
          by_cases hc : rd q (i : Int) > at0 p (i : Int)
          · refine ⟨false, ?_, ?_⟩
            · refine Ev.step (fun k => by rw [impl_IsInside.l0]) ?_
              exact ev_pos (by omega) (ev_pos (by omega) (ev_pos (by omega) (ev_bindc (impl_at_eq p _ hp) (ev_pos hc (ev_val rfl)))))
            · constructor
              · intro h; cases h
              · intro h; have := h i (Nat.le_refl _) hi; omega
          · refine ⟨b, ?_, ?_⟩
            · refine Ev.step (fun k => by rw [impl_IsInside.l0]) ?_
              refine ev_pos (by omega) (ev_pos (by omega) (ev_pos (by omega) (ev_bindc (impl_at_eq p _ hp) (ev_neg hc ?_))))
              rw [wrap_succ (by omega)]; exact hb
            · rw [hiff]
              constructor
              · intro h j a c
                by_cases e : j = i
                · subst e; omega
                · exact h j (by omega) c
              · intro h j a c; exact h j (by omega) c
      obtain ⟨b, hb, hiff⟩ := key 0 (by omega)
      refine ev_eq hb ?_
      rw [Bool.eq_iff_iff, hiff, inside_all q p 0]
      exact ⟨fun h j hj => h j (by omega) hj, fun h j _ hj => h j hj⟩
    · simp only [Bool.not_eq_true] at h2
      rw [h2]
      exact ev_pos rfl (ev_val rfl)
  · simp only [Bool.not_eq_true] at h1
    rw [h1]
    refine Ev.step (fun k => by rw [impl_IsInside.j0]) ?_; exact ev_pos rfl (ev_val rfl)
theorem spec_IsInside_ev (q p : List Int) (hq : q.length ≤ 1048576) (hp : p.length ≤ 1048576) : Ev (fun k => spec_IsInside.f k q p) (isInside q p) := by
  unfold spec_IsInside.f isInside
  refine Ev.bind (spec_IsPartition_ev q hq) (ev_ite (fun h1 => ?_) (fun h1 => ?_))
  · refine Ev.bind (spec_IsPartition_ev p hp) (ev_ite (fun h2 => ?_) (fun h2 => ?_))
    · rw [h1, h2, Bool.true_and, Bool.true_and]
      refine Ev.step (fun k => by rw [spec_IsInside.j0]) ?_
      have hb := (isPartition_bd h1).2.2
      by_cases hl : (q.length : Int) > (p.length : Int)
      · refine ev_pos (decide_eq_true hl) (ev_val ?_)
        symm
        rw [Bool.eq_false_iff]
        intro h
        rw [inside_all q p 0] at h
        have := h p.length (by omega)
        rw [at0_out _ _ (.inr (by omega))] at this
        have := (hb _ (rd_mem q p.length (by omega))).1
        omega
      · refine ev_neg (by simpa using hl) ?_
        have key : ∀ i, i ≤ q.length → ∃ b, Ev (fun k => spec_IsInside.l0 k q p (i : Int)) b ∧ (b = true ↔ ∀ j, i ≤ j → j < q.length → rd q (j : Int) ≤ at0 p (j : Int)) := by
          refine downTo q.length ?_ ?_
          · refine ⟨true, ?_, by simp; intro j a b; omega⟩
            refine Ev.step (fun k => by rw [spec_IsInside.l0]) ?_
            exact ev_neg (by omega) (ev_val rfl)
          · rintro i hi ⟨b, hb, hiff⟩
            have ea := at0_nat p i (by omega)
            by_cases hc : rd q (i : Int) > rd p (i : Int)
            · refine ⟨false, ?_, ?_⟩
              · refine Ev.step (fun k => by rw [spec_IsInside.l0]) ?_
                exact ev_pos (by omega) (ev_pos (by omega) (ev_pos (by omega) (ev_pos hc (ev_val rfl))))
              · constructor
                · intro h; cases h
                · intro h; have := h i (Nat.le_refl _) hi; omega
            · refine ⟨b, ?_, ?_⟩
              · refine Ev.step (fun k => by rw [spec_IsInside.l0]) ?_
                refine ev_pos (by omega) (ev_pos (by omega) (ev_pos (by omega) (ev_neg hc ?_)))
                rw [wrap_succ (by omega)]; exact hb
              · rw [hiff]
                constructor
                · intro h j a c
                  by_cases e : j = i
                  · subst e; omega
                  · exact h j (by omega) c
                · intro h j a c; exact h j (by omega) c
        obtain ⟨b, hb, hiff⟩ := key 0 (by omega)
        refine ev_eq hb ?_
        rw [Bool.eq_iff_iff, hiff, inside_all q p 0]
        exact ⟨fun h j hj => h j (by omega) hj, fun h j _ hj => h j hj⟩
    · simp only [Bool.not_eq_true] at h2
      rw [h1, h2]
      refine Ev.step (fun k => by rw [spec_IsInside.j0]) ?_; exact ev_pos rfl (ev_val rfl)
  · simp only [Bool.not_eq_true] at h1
    rw [h1]
    refine Ev.step (fun k => by rw [spec_IsInside.j0]) ?_; exact ev_pos rfl (ev_val rfl)
theorem impl_IsShape_ev (o n : List Int) (ho : o.length ≤ 1048576) (hn : n.length ≤ 1048576) : Ev (fun k => impl_IsShape.f k o n) (isInside n o) := by
  unfold impl_IsShape.f
  exact Ev.bind (impl_IsInside_ev n o hn ho) (ev_val rfl)
theorem spec_IsShape_ev (o n : List Int) (ho : o.length ≤ 1048576) (hn : n.length ≤ 1048576) : Ev (fun k => spec_IsShape.f k o n) (isInside n o) := by
  unfold spec_IsShape.f
  exact Ev.bind (spec_IsInside_ev n o hn ho) (ev_val rfl)
end Go.Proofs.Ytljjjdgnpnnmoaa.Q
