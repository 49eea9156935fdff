/- The entries of a tableau, and IsTableau, of the program and of the reference: the same functions; condition: at most 2^20 elements in all. -/
import Derived.Test.YtljjjdgnpnnmoaaF0
import Derived.Test.YtljjjdgnpnnmoaaF3
import Derived.Test.YtljjjdgnpnnmoaaF4
import Derived.Test.YtljjjdgnpnnmoaaF5
import Derived.Test.YtljjjdgnpnnmoaaF6
import Derived.Test.YtljjjdgnpnnmoaaQBase
import Derived.Test.YtljjjdgnpnnmoaaQRows
import Derived.Test.YtljjjdgnpnnmoaaQPart
import Derived.Test.YtljjjdgnpnnmoaaQInside
import Derived.Test.YtljjjdgnpnnmoaaQShapeOf
set_option linter.unusedVariables false
set_option linter.unusedSimpArgs false
namespace Go.Proofs.Ytljjjdgnpnnmoaa.Q
open Go.RowKit Go.Proofs.Ytljjjdgnpnnmoaa.F Go.Proofs.YtljjjdgnpnnmoaaW.PrintWords Go.Proofs.YtljjjdgnpnnmoaaW.PrintLast Go.Proofs.YtljjjdgnpnnmoaaW.PrintMore
def entryOf (n : List Int) (m : List (List Int)) (r c : Int) : Int := if 0 ≤ r ∧ r < (m.length : Int) then at0 (rd_L1 m r) (c - at0 n r) else 0
theorem impl_entry_eq (n : List Int) (m : List (List Int)) (r c : Int) (h1 : isPartition n = true) (hm : m.length ≤ 1048576) (hr : ∀ q ∈ m, q.length ≤ 1048576) (hc : -1000 ≤ c) (hc2 : c ≤ 2097152) : impl_Tableau_entry.f n m r c = some (entryOf n m r c) := by
  have hn := (isPartition_bd h1).2.1
  have hb := at0_bd h1 r
  unfold impl_Tableau_entry.f entryOf
  rw [wrap_id (by omega) (by omega), impl_within_eq]
  simp only [Option.bind_some]
  by_cases h : 0 ≤ r ∧ r < (m.length : Int)
  · obtain ⟨j, rfl⟩ : ∃ j : Nat, r = (j : Int) := ⟨r.toNat, by omega⟩
    rw [if_pos h, if_pos (by rw [decide_eq_true_eq]; omega), if_pos h.1, if_pos h.2, impl_at_eq n _ (by omega)]
    simp only [Option.bind_some]
    rw [wrap_id (by omega) (by omega), impl_at_eq _ _ (hr _ (rows_mem m j (by omega)))]
    rfl
  · rw [if_neg h, if_neg (by rw [decide_eq_true_eq]; omega)]
theorem spec_entry_ev (n : List Int) (m : List (List Int)) (r c : Int) (h1 : isPartition n = true) (hc : -1000 ≤ c) (hc2 : c ≤ 2097152) : Ev (fun k => spec_l5Entry.f k n m r c) (entryOf n m r c) := by
  have hb := at0_bd h1 r
  unfold spec_l5Entry.f entryOf
  refine ev_ite (fun h => ?_) (fun h => ?_)
  · refine Ev.step (fun k => by rw [spec_l5Entry.j0]) ?_
    exact ev_pos rfl (ev_val (by rw [if_neg (by omega)]))
  · refine Ev.step (fun k => by rw [spec_l5Entry.j0]) ?_
    refine ev_ite (fun h2 => ev_val ?_) (fun h2 => ?_)
    · rw [decide_eq_true_eq] at h2
      rw [if_neg (by omega)]
    · rw [decide_eq_true_eq] at h2
      rw [if_pos (by omega)]
      refine ev_bindc (spec_l2At_eq n r) ?_
      rw [wrap_id (by omega) (by omega)]
      unfold at0
      generalize rd_L1 m r = q
      generalize (if 0 ≤ r ∧ r < (n.length : Int) then rd n r else 0) = z
      refine ev_ite (fun h3 => ev_val (by rw [if_neg (by omega)])) (fun h3 => ev_pos (by omega) (ev_pos (by omega) (ev_ite (fun h4 => ev_val (by rw [if_neg (by omega)])) (fun h4 => ev_pos (by omega) (ev_pos (by omega) (ev_val (by rw [if_pos (by omega)])))))))
/-- the number at index k of row i fits its neighbours -/
def CellOk (n : List Int) (m : List (List Int)) (i k : Nat) : Prop :=
  (1 ≤ rd (rd_L1 m (i : Int)) (k : Int) ∧ rd (rd_L1 m (i : Int)) (k : Int) ≤ 9) ∧ (0 < k → rd (rd_L1 m (i : Int)) ((k - 1 : Nat) : Int) ≤ rd (rd_L1 m (i : Int)) (k : Int)) ∧ (0 < i → entryOf n m ((i - 1 : Nat) : Int) (at0 n (i : Int) + k) < rd (rd_L1 m (i : Int)) (k : Int))
instance (n : List Int) (m : List (List Int)) (i k : Nat) : Decidable (CellOk n m i k) := by unfold CellOk; infer_instance
def isTab (n : List Int) (m : List (List Int)) : Bool := hasShape n m && (List.range m.length).all (fun i => (List.range (rd_L1 m (i : Int)).length).all (fun k => decide (CellOk n m i k)))
theorem isTab_iff {n : List Int} {m : List (List Int)} : isTab n m = true ↔ hasShape n m = true ∧ ∀ i, i < m.length → ∀ k, k < (rd_L1 m (i : Int)).length → CellOk n m i k := by
  unfold isTab
  rw [Bool.and_eq_true, List.all_eq_true]
  constructor
  · rintro ⟨h1, h2⟩
    refine ⟨h1, fun i hi k hk => ?_⟩
    have := h2 i (List.mem_range.2 hi)
    rw [List.all_eq_true] at this
    simpa using this k (List.mem_range.2 hk)
  · rintro ⟨h1, h2⟩
    refine ⟨h1, fun i hi => ?_⟩
    rw [List.all_eq_true]
    intro k hk
    simpa using h2 i (List.mem_range.1 hi) k (List.mem_range.1 hk)
theorem impl_IsTableau_l1 (n : List Int) (m : List (List Int)) (hs : hasShape n m = true) (hr : ∀ q ∈ m, q.length ≤ 1048576) (i : Nat) (hi : i < m.length) (b : Bool)
    (hnext : Ev (fun k => impl_IsTableau.l0 k m (m.length : Int) ((i + 1 : Nat) : Int) n m) b) :
    ∀ j, j ≤ (rd_L1 m (i : Int)).length → ∃ b', Ev (fun k => impl_IsTableau.l1 k (i : Int) (rd_L1 m (i : Int)) m (m.length : Int) (i : Int) (rd_L1 m (i : Int)) ((rd_L1 m (i : Int)).length : Int) (j : Int) n m) b' ∧ (b' = true ↔ (∀ k, j ≤ k → k < (rd_L1 m (i : Int)).length → CellOk n m i k) ∧ b = true) := by
  obtain ⟨h1, h2, h3, _, h5⟩ := hasShape_bd hs
  have hlen := hr _ (rows_mem m i hi)
  have hrow := h5 i hi
  have hb := at0_bd h1 (i : Int)
  refine downTo _ ?_ ?_
  · refine ⟨b, ?_, ?_⟩
    · refine Ev.step (fun k => by rw [impl_IsTableau.l1]) ?_
      refine ev_neg (by omega) ?_
      rw [wrap_succ (by omega)]; exact hnext
    · constructor
      · intro h; exact ⟨fun k a c => by omega, h⟩
      · intro h; exact h.2
  · rintro j hj ⟨b', hb', hiff⟩
    have hcell : (∀ k, j ≤ k → k < (rd_L1 m (i : Int)).length → CellOk n m i k) ↔ CellOk n m i j ∧ ∀ k, j + 1 ≤ k → k < (rd_L1 m (i : Int)).length → CellOk n m i k := by
      constructor
      · intro h; exact ⟨h j (Nat.le_refl _) hj, fun k a c => h k (by omega) c⟩
      · rintro ⟨h, h'⟩ k a c
        by_cases e : k = j
        · subst e; exact h
        · exact h' k (by omega) c
    have hup : wrap64 ((i : Int) - 1) = (i : Int) - 1 := wrap_id (by omega) (by omega)
    have hcol : wrap64 (at0 n (i : Int) + (j : Int)) = at0 n (i : Int) + j := wrap_id (by omega) (by omega)
    have tail : Ev (fun k => impl_IsTableau.l1 k (i : Int) (rd_L1 m (i : Int)) m (m.length : Int) (i : Int) (rd_L1 m (i : Int)) ((rd_L1 m (i : Int)).length : Int) (wrap64 ((j : Int) + 1)) n m) b' := by
      rw [wrap_succ (by omega)]; exact hb'
    by_cases c1 : 1 ≤ rd (rd_L1 m (i : Int)) (j : Int) ∧ rd (rd_L1 m (i : Int)) (j : Int) ≤ 9
    · by_cases c2 : 0 < j → rd (rd_L1 m (i : Int)) ((j - 1 : Nat) : Int) ≤ rd (rd_L1 m (i : Int)) (j : Int)
      · by_cases c3 : 0 < i → entryOf n m ((i - 1 : Nat) : Int) (at0 n (i : Int) + j) < rd (rd_L1 m (i : Int)) (j : Int)
        · refine ⟨b', ?_, ?_⟩
          · refine Ev.step (fun k => by rw [impl_IsTableau.l1]) ?_
            refine ev_pos (by omega) (ev_pos (by omega) (ev_pos (by omega) (ev_bindc (impl_within_eq _ _ _) (ev_pos (decide_eq_true c1) ?_))))
            have up : Ev (fun k => if (i : Int) > 0 then ((impl_at.f n (i : Int)).bind fun t222 => ((impl_Tableau_entry.f n m (wrap64 ((i : Int) - 1)) (wrap64 (t222 + (j : Int)))).bind fun t223 => (if (rd (rd_L1 m (i : Int)) (j : Int)) ≤ t223 then (some false) else (impl_IsTableau.l1 k (i : Int) (rd_L1 m (i : Int)) m (m.length : Int) (i : Int) (rd_L1 m (i : Int)) ((rd_L1 m (i : Int)).length : Int) (wrap64 ((j : Int) + 1)) n m)))) else (impl_IsTableau.l1 k (i : Int) (rd_L1 m (i : Int)) m (m.length : Int) (i : Int) (rd_L1 m (i : Int)) ((rd_L1 m (i : Int)).length : Int) (wrap64 ((j : Int) + 1)) n m)) b' := by
              refine ev_ite (fun hp => ?_) (fun _ => tail)
              refine ev_bindc (impl_at_eq n _ (by omega)) ?_
              rw [hup, hcol]
              refine ev_bindc (impl_entry_eq n m _ _ h1 (by omega) hr (by omega) (by omega)) (ev_neg ?_ tail)
              have := c3 (by omega)
              rw [show ((i - 1 : Nat) : Int) = (i : Int) - 1 by omega] at this
              omega
            by_cases hj0 : (j : Int) > 0
            · have e : wrap64 ((j : Int) - 1) = ((j - 1 : Nat) : Int) := by unfold wrap64; omega
              rw [e]
              have := c2 (by omega)
              exact ev_pos hj0 (ev_pos (by omega) (ev_pos (by omega) (ev_neg (by omega) up)))
            · exact ev_neg hj0 up
          · rw [hiff, hcell]
            constructor
            · rintro ⟨g1, g2⟩; exact ⟨⟨⟨c1, c2, c3⟩, g1⟩, g2⟩
            · rintro ⟨⟨_, g1⟩, g2⟩; exact ⟨g1, g2⟩
        · have hi0 : 0 < i := Classical.byContradiction fun h => c3 (fun h' => absurd h' h)
          have hge : ¬ entryOf n m ((i - 1 : Nat) : Int) (at0 n (i : Int) + j) < rd (rd_L1 m (i : Int)) (j : Int) := fun h => c3 (fun _ => h)
          refine ⟨false, ?_, ?_⟩
          · refine Ev.step (fun k => by rw [impl_IsTableau.l1]) ?_
            refine ev_pos (by omega) (ev_pos (by omega) (ev_pos (by omega) (ev_bindc (impl_within_eq _ _ _) (ev_pos (decide_eq_true c1) ?_))))
            have up : Ev (fun k => if (i : Int) > 0 then ((impl_at.f n (i : Int)).bind fun t222 => ((impl_Tableau_entry.f n m (wrap64 ((i : Int) - 1)) (wrap64 (t222 + (j : Int)))).bind fun t223 => (if (rd (rd_L1 m (i : Int)) (j : Int)) ≤ t223 then (some false) else (impl_IsTableau.l1 k (i : Int) (rd_L1 m (i : Int)) m (m.length : Int) (i : Int) (rd_L1 m (i : Int)) ((rd_L1 m (i : Int)).length : Int) (wrap64 ((j : Int) + 1)) n m)))) else (impl_IsTableau.l1 k (i : Int) (rd_L1 m (i : Int)) m (m.length : Int) (i : Int) (rd_L1 m (i : Int)) ((rd_L1 m (i : Int)).length : Int) (wrap64 ((j : Int) + 1)) n m)) false := by
              refine ev_pos (by omega) (ev_bindc (impl_at_eq n _ (by omega)) ?_)
              rw [hup, hcol]
              refine ev_bindc (impl_entry_eq n m _ _ h1 (by omega) hr (by omega) (by omega)) (ev_pos ?_ (ev_val rfl))
              rw [show ((i - 1 : Nat) : Int) = (i : Int) - 1 by omega] at hge
              omega
            by_cases hj0 : (j : Int) > 0
            · have e : wrap64 ((j : Int) - 1) = ((j - 1 : Nat) : Int) := by unfold wrap64; omega
              rw [e]
              have := c2 (by omega)
              exact ev_pos hj0 (ev_pos (by omega) (ev_pos (by omega) (ev_neg (by omega) up)))
            · exact ev_neg hj0 up
          · rw [hcell]
            constructor
            · intro h; cases h
            · rintro ⟨⟨⟨_, _, g⟩, _⟩, _⟩; exact absurd g c3
      · have hj0 : 0 < j := Classical.byContradiction fun h => c2 (fun h' => absurd h' h)
        have hlt : ¬ rd (rd_L1 m (i : Int)) ((j - 1 : Nat) : Int) ≤ rd (rd_L1 m (i : Int)) (j : Int) := fun h => c2 (fun _ => h)
        refine ⟨false, ?_, ?_⟩
        · refine Ev.step (fun k => by rw [impl_IsTableau.l1]) ?_
          have e : wrap64 ((j : Int) - 1) = ((j - 1 : Nat) : Int) := by unfold wrap64; omega
          rw [e]
          exact ev_pos (by omega) (ev_pos (by omega) (ev_pos (by omega) (ev_bindc (impl_within_eq _ _ _) (ev_pos (decide_eq_true c1) (ev_pos (by omega) (ev_pos (by omega) (ev_pos (by omega) (ev_pos (by omega) (ev_val rfl)))))))))
        · rw [hcell]
          constructor
          · intro h; cases h
          · rintro ⟨⟨⟨_, g, _⟩, _⟩, _⟩; exact absurd g c2
    · refine ⟨false, ?_, ?_⟩
      · refine Ev.step (fun k => by rw [impl_IsTableau.l1]) ?_
        exact ev_pos (by omega) (ev_pos (by omega) (ev_pos (by omega) (ev_bindc (impl_within_eq _ _ _) (ev_neg (by rw [decide_eq_true_eq]; exact c1) (ev_val rfl)))))
      · rw [hcell]
        constructor
        · intro h; cases h
        · rintro ⟨⟨⟨g, _, _⟩, _⟩, _⟩; exact absurd g c1
theorem impl_IsTableau_ev (n : List Int) (m : List (List Int)) (hn : n.length ≤ 1048576) (hm : m.length ≤ 1048576) (hr : ∀ r ∈ m, r.length ≤ 1048576) : Ev (fun k => impl_IsTableau.f k n m) (isTab n m) := by
  unfold impl_IsTableau.f
  refine Ev.bind (impl_ShapeOf_ev n m hn hm hr) ?_
  by_cases hs : hasShape n m = true
  · rw [show shapeOf n m = (outerOf n m, n, true) by unfold shapeOf; rw [if_pos hs]]
    refine ev_pos rfl ?_
    have key : ∀ i, i ≤ m.length → ∃ b, Ev (fun k => impl_IsTableau.l0 k m (m.length : Int) (i : Int) n m) b ∧ (b = true ↔ ∀ i', i ≤ i' → i' < m.length → ∀ k, k < (rd_L1 m (i' : Int)).length → CellOk n m i' k) := by
      refine downTo m.length ?_ ?_
      · refine ⟨true, ?_, by simp; intro i' a b; omega⟩
        refine Ev.step (fun k => by rw [impl_IsTableau.l0]) ?_
        exact ev_neg (by omega) (ev_val rfl)
      · rintro i hi ⟨b, hb, hiff⟩
        obtain ⟨b', hb', hiff'⟩ := impl_IsTableau_l1 n m hs hr i hi b hb 0 (by omega)
        refine ⟨b', ?_, ?_⟩
        · refine Ev.step (fun k => by rw [impl_IsTableau.l0]) ?_
          exact ev_pos (by omega) (ev_pos (by omega) (ev_pos (by omega) hb'))
        · rw [hiff', hiff]
          constructor
          · rintro ⟨g1, g2⟩ i' a c k hk
            by_cases e : i' = i
            · subst e; exact g1 k (by omega) hk
            · exact g2 i' (by omega) c k hk
          · intro g; exact ⟨fun k _ hk => g i (Nat.le_refl _) hi k hk, fun i' a c k hk => g i' (by omega) c k hk⟩
    obtain ⟨b, hb, hiff⟩ := key 0 (by omega)
    refine ev_eq hb ?_
    rw [Bool.eq_iff_iff, hiff, isTab_iff]
    exact ⟨fun g => ⟨hs, fun i hi k hk => g i (by omega) hi k hk⟩, fun g i _ hi k hk => g.2 i hi k hk⟩
  · rw [show shapeOf n m = ([], [], false) by unfold shapeOf; rw [if_neg hs]]
    refine ev_neg (by simp) (ev_val ?_)
    simp only [Bool.not_eq_true] at hs
    unfold isTab; rw [hs]; rfl
theorem entryOf_cell (n : List Int) (m : List (List Int)) (i j : Nat) (hi : i < m.length) (hj : j < (rd_L1 m (i : Int)).length) : entryOf n m (i : Int) (at0 n (i : Int) + j) = rd (rd_L1 m (i : Int)) (j : Int) := by
  unfold entryOf
  rw [if_pos (by omega), show at0 n (i : Int) + (j : Int) - at0 n (i : Int) = (j : Int) by omega, at0_nat _ j hj]
theorem entryOf_left (n : List Int) (m : List (List Int)) (i j : Nat) (hi : i < m.length) (hj : j < (rd_L1 m (i : Int)).length) : entryOf n m (i : Int) (at0 n (i : Int) + j - 1) = if 0 < j then rd (rd_L1 m (i : Int)) ((j - 1 : Nat) : Int) else 0 := by
  unfold entryOf
  rw [if_pos (by omega)]
  by_cases h : 0 < j
  · rw [if_pos h, show at0 n (i : Int) + (j : Int) - 1 - at0 n (i : Int) = ((j - 1 : Nat) : Int) by omega, at0_nat _ (j - 1) (by omega)]
  · rw [if_neg h, at0_out _ _ (.inl (by omega))]
theorem spec_IsTableau_l1 (n : List Int) (m : List (List Int)) (hs : hasShape n m = true) (i : Nat) (hi : i < m.length) (b : Bool)
    (hnext : Ev (fun k => spec_IsTableau.l0 k ((i + 1 : Nat) : Int) n m (outerOf n m) n) b) :
    ∀ j, j ≤ (rd_L1 m (i : Int)).length → ∃ b', Ev (fun k => spec_IsTableau.l1 k (i : Int) (at0 n (i : Int) + (j : Int)) n m (outerOf n m) n) b' ∧ (b' = true ↔ (∀ k, j ≤ k → k < (rd_L1 m (i : Int)).length → CellOk n m i k) ∧ b = true) := by
  obtain ⟨h1, h2, h3, _, h5⟩ := hasShape_bd hs
  have hrow := h5 i hi
  have hb := at0_bd h1 (i : Int)
  have hol := outerOf_length n m
  have hor := outerOf_rd n m i hi
  refine downTo _ ?_ ?_
  · refine ⟨b, ?_, ?_⟩
    · refine Ev.step (fun k => by rw [spec_IsTableau.l1]) ?_
      refine ev_pos (by omega) (ev_pos (by omega) (ev_neg (by omega) ?_))
      rw [wrap_succ (by omega)]; exact hnext
    · constructor
      · intro h; exact ⟨fun k a c => by omega, h⟩
      · intro h; exact h.2
  · rintro j hj ⟨b', hb', hiff⟩
    have hcell : (∀ k, j ≤ k → k < (rd_L1 m (i : Int)).length → CellOk n m i k) ↔ CellOk n m i j ∧ ∀ k, j + 1 ≤ k → k < (rd_L1 m (i : Int)).length → CellOk n m i k := by
      constructor
      · intro h; exact ⟨h j (Nat.le_refl _) hj, fun k a c => h k (by omega) c⟩
      · rintro ⟨h, h'⟩ k a c
        by_cases e : k = j
        · subst e; exact h
        · exact h' k (by omega) c
    have hx := entryOf_cell n m i j hi hj
    have hleft := entryOf_left n m i j hi hj
    have hup : wrap64 ((i : Int) - 1) = (i : Int) - 1 := wrap_id (by omega) (by omega)
    have hc1 : wrap64 (at0 n (i : Int) + (j : Int) - 1) = at0 n (i : Int) + j - 1 := wrap_id (by omega) (by omega)
    have hc2 : wrap64 (at0 n (i : Int) + (j : Int) + 1) = at0 n (i : Int) + ((j + 1 : Nat) : Int) := by rw [wrap_id (by omega) (by omega)]; omega
    -- what j2 answers
    have hj2 : ∀ left : Int, left = (if 0 < j then rd (rd_L1 m (i : Int)) ((j - 1 : Nat) : Int) else 0) → ∃ v, Ev (fun k => spec_IsTableau.j2 k (i : Int) (at0 n (i : Int) + (j : Int)) (rd (rd_L1 m (i : Int)) (j : Int)) left n m (outerOf n m) n) v ∧ (v = true ↔ (∀ k, j ≤ k → k < (rd_L1 m (i : Int)).length → CellOk n m i k) ∧ b = true) := by
      intro left hl
      rw [hcell]
      by_cases c1 : 1 ≤ rd (rd_L1 m (i : Int)) (j : Int) ∧ rd (rd_L1 m (i : Int)) (j : Int) ≤ 9
      · by_cases c2 : left > rd (rd_L1 m (i : Int)) (j : Int)
        · refine ⟨false, ?_, ?_⟩
          · refine Ev.step (fun k => by rw [spec_IsTableau.j2]) ?_
            exact ev_bindc (spec_l1In_eq _ _ _) (ev_pos (decide_eq_true c1) (ev_pos c2 (ev_val rfl)))
          · constructor
            · intro h; cases h
            · rintro ⟨⟨⟨_, g, _⟩, _⟩, _⟩
              exfalso
              by_cases hj0 : 0 < j
              · rw [if_pos hj0] at hl; have := g hj0; omega
              · rw [if_neg hj0] at hl; omega
        · by_cases c3 : entryOf n m ((i : Int) - 1) (at0 n (i : Int) + j) ≥ rd (rd_L1 m (i : Int)) (j : Int)
          · refine ⟨false, ?_, ?_⟩
            · refine Ev.step (fun k => by rw [spec_IsTableau.j2]) ?_
              rw [hup]
              exact ev_bindc (spec_l1In_eq _ _ _) (ev_pos (decide_eq_true c1) (ev_neg c2 (Ev.bind (spec_entry_ev n m _ _ h1 (by omega) (by omega)) (ev_pos c3 (ev_val rfl)))))
            · constructor
              · intro h; cases h
              · rintro ⟨⟨⟨_, _, g⟩, _⟩, _⟩
                exfalso
                by_cases hi0 : 0 < i
                · have := g hi0
                  rw [show ((i - 1 : Nat) : Int) = (i : Int) - 1 by omega] at this
                  omega
                · have : entryOf n m ((i : Int) - 1) (at0 n (i : Int) + j) = 0 := by unfold entryOf; rw [if_neg (by omega)]
                  omega
          · refine ⟨b', ?_, ?_⟩
            · refine Ev.step (fun k => by rw [spec_IsTableau.j2]) ?_
              rw [hup, hc2]
              exact ev_bindc (spec_l1In_eq _ _ _) (ev_pos (decide_eq_true c1) (ev_neg c2 (Ev.bind (spec_entry_ev n m _ _ h1 (by omega) (by omega)) (ev_neg c3 hb'))))
            · rw [hiff]
              constructor
              · rintro ⟨g1, g2⟩
                refine ⟨⟨⟨c1, fun hj0 => ?_, fun hi0 => ?_⟩, g1⟩, g2⟩
                · rw [if_pos hj0] at hl; omega
                · rw [show ((i - 1 : Nat) : Int) = (i : Int) - 1 by omega]; omega
              · rintro ⟨⟨_, g1⟩, g2⟩; exact ⟨g1, g2⟩
      · refine ⟨false, ?_, ?_⟩
        · refine Ev.step (fun k => by rw [spec_IsTableau.j2]) ?_
          exact ev_bindc (spec_l1In_eq _ _ _) (ev_neg (by rw [decide_eq_true_eq]; exact c1) (ev_val rfl))
        · constructor
          · intro h; cases h
          · rintro ⟨⟨⟨g, _, _⟩, _⟩, _⟩; exact absurd g c1
    obtain ⟨v, hv, hvi⟩ := hj2 _ rfl
    refine ⟨v, ?_, hvi⟩
    refine Ev.step (fun k => by rw [spec_IsTableau.l1]) ?_
    rw [hc1]
    have e1 := spec_entry_ev n m (i : Int) (at0 n (i : Int) + j) h1 (by omega) (by omega)
    rw [hx] at e1
    refine ev_pos (by omega) (ev_pos (by omega) (ev_pos (by omega) (Ev.bind e1 (ev_ite (fun hp => ?_) (fun hp => ?_)))))
    · have e2 := spec_entry_ev n m (i : Int) (at0 n (i : Int) + j - 1) h1 (by omega) (by omega)
      rw [hleft] at e2
      exact Ev.bind e2 hv
    · have : (if 0 < j then rd (rd_L1 m (i : Int)) ((j - 1 : Nat) : Int) else 0) = 0 := by rw [if_neg (by omega)]
      rw [this] at hv
      exact hv
theorem spec_IsTableau_ev (n : List Int) (m : List (List Int)) (hn : n.length ≤ 1048576) (hm : m.length ≤ 1048576) (hr : ∀ r ∈ m, r.length ≤ 1048576) : Ev (fun k => spec_IsTableau.f k n m) (isTab n m) := by
  unfold spec_IsTableau.f
  refine Ev.bind (spec_ShapeOf_ev n m hn hm hr) ?_
  by_cases hs : hasShape n m = true
  · rw [show shapeOf n m = (outerOf n m, n, true) by unfold shapeOf; rw [if_pos hs]]
    refine ev_pos rfl ?_
    have hol := outerOf_length n m
    have key : ∀ i, i ≤ m.length → ∃ b, Ev (fun k => spec_IsTableau.l0 k (i : Int) n m (outerOf n m) n) b ∧ (b = true ↔ ∀ i', i ≤ i' → i' < m.length → ∀ k, k < (rd_L1 m (i' : Int)).length → CellOk n m i' k) := by
      refine downTo m.length ?_ ?_
      · refine ⟨true, ?_, by simp; intro i' a b; omega⟩
        refine Ev.step (fun k => by rw [spec_IsTableau.l0]) ?_
        exact ev_neg (by omega) (ev_val rfl)
      · rintro i hi ⟨b, hb, hiff⟩
        obtain ⟨b', hb', hiff'⟩ := spec_IsTableau_l1 n m hs i hi b hb 0 (by omega)
        refine ⟨b', ?_, ?_⟩
        · refine Ev.step (fun k => by rw [spec_IsTableau.l0]) ?_
          refine ev_pos (by omega) (ev_bindc (spec_l2At_eq n _) ?_)
          simpa using hb'
        · rw [hiff', hiff]
          constructor
          · rintro ⟨g1, g2⟩ i' a c k hk
            by_cases e : i' = i
            · subst e; exact g1 k (by omega) hk
            · exact g2 i' (by omega) c k hk
          · intro g; exact ⟨fun k _ hk => g i (Nat.le_refl _) hi k hk, fun i' a c k hk => g i' (by omega) c k hk⟩
    obtain ⟨b, hb, hiff⟩ := key 0 (by omega)
    refine ev_eq hb ?_
    rw [Bool.eq_iff_iff, hiff, isTab_iff]
    exact ⟨fun g => ⟨hs, fun i hi k hk => g i (by omega) hi k hk⟩, fun g i _ hi k hk => g.2 i hi k hk⟩
  · rw [show shapeOf n m = ([], [], false) by unfold shapeOf; rw [if_neg hs]]
    refine ev_neg (by simp) (ev_val ?_)
    simp only [Bool.not_eq_true] at hs
    unfold isTab; rw [hs]; rfl
end Go.Proofs.Ytljjjdgnpnnmoaa.Q
