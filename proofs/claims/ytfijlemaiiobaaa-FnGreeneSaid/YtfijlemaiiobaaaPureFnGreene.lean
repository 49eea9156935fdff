/- The law of Greene's theorem, as a statement over byte lists: it answers true at each; no condition beyond the statement's own. -/
import Derived.Test.YtfijlemaiiobaaaF0
import Derived.Test.YtfijlemaiiobaaaF9
import Derived.Test.YtfijlemaiiobaaaQGreene9
set_option linter.unusedVariables false
set_option linter.unusedSimpArgs false
namespace Go.Proofs.Ytfijlemaiiobaaa.Pure
open Go.RowKit Go.Proofs.Ytfijlemaiiobaaa.F Go.Proofs.YtfijlemaiiobaaaW.PrintWords Go.Proofs.YtfijlemaiiobaaaW.PrintLast Go.Proofs.YtfijlemaiiobaaaW.PrintMore Go.Proofs.Ytfijlemaiiobaaa.Q
theorem draw_ok (b : List Int) (hb : b.length ≤ 1048576) : ∃ w a, Ev (fun k => spec_DrawRisesTogether.f k b) (w, a) ∧ w.length ≤ 10 := by
  obtain ⟨h, e0⟩ := new_ok b hb
  obtain ⟨w, i1, h1, e1, l1, hc1⟩ := l8Bent_ok h (cur_start hb)
  obtain ⟨x, i2, h2, e2, _, _⟩ := pick_ok h1 [1, 2, 3, 0, -1, 10, 2] hc1 (by simp) (by simp)
  exact ⟨w, x, by unfold spec_DrawRisesTogether.f; exact Ev.bind e0 (Ev.bind e1 (ev_bindc e2 (ev_val rfl))), l1⟩
theorem rd_snoc_sum (l : List Int) (i : Nat) (h : i < l.length) : isum (l.take (i + 1)) = isum (l.take i) + rd l (i : Int) := by
  rw [take_rd l i h, isum_snoc]
theorem sum_take_bd {l : List Int} (h : ∀ x ∈ l, 0 ≤ x ∧ x ≤ 1000000) : ∀ i : Nat, 0 ≤ isum (l.take i) ∧ isum (l.take i) ≤ 1000000 * i
  | 0 => by simp [isum]
  | i + 1 => by
    obtain ⟨h1, h2⟩ := sum_take_bd h i
    rcases Nat.lt_or_ge i l.length with hi | hi
    · rw [rd_snoc_sum l i hi]
      have := h _ (rd_mem l i hi)
      omega
    · rw [List.take_of_length_le (by omega)]
      rw [List.take_of_length_le (by omega)] at h1 h2
      omega
theorem FnGreene : laws_FnGreene.Pure := by
  intro b _ _ _
  refine Ev.rounds ?_
  unfold laws_FnGreene.f
  have hbig : laws_big.f b = some (decide ((b.length : Int) > 1048576)) := rfl
  refine ev_bindc hbig (ev_ite (fun _ => ev_val rfl) (fun hb => ?_))
  have hb : b.length ≤ 1048576 := by simp at hb; omega
  obtain ⟨w, a, hd, hw⟩ := draw_ok b hb
  have hw2 : w.length ≤ 1048576 := by omega
  refine Ev.bind hd (Ev.bind (impl_RisesTogether_ev w a) (Ev.bind (impl_FallsTogether_ev w a) (Ev.bind (spec_RisesTogether_ev w a hw2) (ev_pos rfl (Ev.bind (spec_FallsTogether_ev w a hw2) (ev_pos rfl ?_))))))
  refine Ev.bind (impl_LongestRise_ev w) (Ev.bind (spec_LongestRise_ev w hw2) (ev_pos rfl (Ev.bind (impl_LongestFall_ev w) (Ev.bind (spec_LongestFall_ev w hw2) ?_))))
  refine Ev.step (fun k => by rw [laws_FnGreene.j0]) (ev_neg (by simp) ?_)
  by_cases hv : isWord w = true ∧ 0 ≤ a ∧ a ≤ 9
  · obtain ⟨hiw, ha⟩ := hv
    have h9 := (isWord_iff.1 hiw).1
    have hp := lens_isPart w h9
    obtain ⟨K, rfl⟩ : ∃ K : Nat, a = (K : Int) := ⟨a.toNat, by omega⟩
    have er : risesT w (K : Int) = (firstRows K (insAll w) : Int) := by rw [risesT, if_pos ⟨hiw, ha⟩, Int.toNat_natCast]
    have ef : fallsT w (K : Int) = (firstCols K (insAll w) : Int) := by rw [fallsT, if_pos ⟨hiw, ha⟩, Int.toNat_natCast]
    refine ev_neg (by rw [er]; omega) (Ev.bind (impl_ShapeOfWord_ev w) ?_)
    rw [shapeOfWord_lens hiw]
    refine Ev.bind (spec_Conjugate_ev _ hp) ?_
    obtain ⟨p, hpp⟩ : ∃ p, p = lens (insAll w) := ⟨_, rfl⟩
    have hpb := (lens_bd w h9).2
    have hpl := (isPartition_bd hp).2.1
    have hcb := conj_bd hp
    rw [← hpp] at hp hpb hpl hcb ⊢
    have hsr : isum (p.take K) = risesT w (K : Int) := by rw [er, hpp]; exact isum_take_lens K _
    have hsf : isum ((conj p).take K) = fallsT w (K : Int) := by rw [ef, hpp]; exact isum_conj _ (by rw [← hpp]; exact hp) K
    have loop : ∀ (d i : Nat), i + d = K → Ev (fun k => laws_FnGreene.l0 k w (K : Int) (risesT w (K : Int)) (fallsT w (K : Int)) p (conj p) (isum (p.take i)) (isum ((conj p).take i)) (i : Int)) true := by
      intro d
      induction d with
      | zero =>
        intro i hi
        obtain rfl : i = K := by omega
        refine Ev.step (fun k => by rw [laws_FnGreene.l0]) (ev_neg (by omega) (ev_pos hsr.symm (ev_pos hsf.symm ?_)))
        exact Ev.bind (impl_LongestRise_ev w) (Ev.bind (impl_RisesTogether_ev w 1) (ev_pos rfl (Ev.bind (impl_LongestFall_ev w) (Ev.bind (impl_FallsTogether_ev w 1) (ev_val (by simp))))))
      | succ d ih =>
        intro i hi
        have hn := ih (i + 1) (by omega)
        have b1 := sum_take_bd hpb i
        have b2 := sum_take_bd hcb.2 i
        have b3 := sum_take_bd hpb (i + 1)
        have b4 := sum_take_bd hcb.2 (i + 1)
        refine Ev.step (fun k => by rw [laws_FnGreene.l0]) (ev_pos (by omega) ?_)
        rw [wrap_succ (by omega)]
        by_cases h1 : i < p.length
        · rw [rd_snoc_sum p i h1] at hn b3
          refine ev_pos (by omega) (ev_pos (by omega) ?_)
          rw [wrap_id (i := isum (p.take i) + rd p (i : Int)) (by omega) (by omega)]
          by_cases h2 : i < (conj p).length
          · rw [rd_snoc_sum (conj p) i h2] at hn b4
            refine ev_pos (by omega) ?_
            rw [wrap_id (i := isum ((conj p).take i) + rd (conj p) (i : Int)) (by omega) (by omega)]
            exact hn
          · rw [List.take_of_length_le (l := conj p) (i := i + 1) (by omega)] at hn
            refine ev_neg (by omega) ?_
            rw [List.take_of_length_le (l := conj p) (i := i) (by omega)]
            exact hn
        · rw [List.take_of_length_le (l := p) (i := i + 1) (by omega)] at hn
          refine ev_neg (by omega) ?_
          rw [List.take_of_length_le (l := p) (i := i) (by omega)]
          by_cases h2 : i < (conj p).length
          · rw [rd_snoc_sum (conj p) i h2] at hn b4
            refine ev_pos (by omega) (ev_pos (by omega) ?_)
            rw [wrap_id (i := isum ((conj p).take i) + rd (conj p) (i : Int)) (by omega) (by omega)]
            exact hn
          · rw [List.take_of_length_le (l := conj p) (i := i + 1) (by omega)] at hn
            refine ev_neg (by omega) ?_
            rw [List.take_of_length_le (l := conj p) (i := i) (by omega)]
            exact hn
    have := loop K 0 (by omega)
    simpa [isum] using this
  · have er : risesT w a = -1 := by rw [risesT, if_neg hv]
    have ef : fallsT w a = -1 := by rw [fallsT, if_neg hv]
    rw [er, ef]
    exact ev_pos (by omega) (ev_val (by decide))
end Go.Proofs.Ytfijlemaiiobaaa.Pure
