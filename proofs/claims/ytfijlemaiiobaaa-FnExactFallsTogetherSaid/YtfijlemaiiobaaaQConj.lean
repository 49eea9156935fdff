/- The columns of a partition, by the program, and the sum of the first of them; condition: a partition of at most nine. -/
import Derived.Test.YtfijlemaiiobaaaF0
import Derived.Test.YtfijlemaiiobaaaF6
import Derived.Test.YtfijlemaiiobaaaQBase
import Derived.Test.YtfijlemaiiobaaaQRows
import Derived.Test.YtfijlemaiiobaaaQPart
import Derived.Test.YtfijlemaiiobaaaQInsertWord
import Derived.Test.YtfijlemaiiobaaaQGreene
import Derived.Test.YtfijlemaiiobaaaQLens
set_option linter.unusedVariables false
set_option linter.unusedSimpArgs false
namespace Go.Proofs.Ytfijlemaiiobaaa.Q
open Go.RowKit Go.Proofs.Ytfijlemaiiobaaa.F Go.Proofs.YtfijlemaiiobaaaW.PrintWords Go.Proofs.YtfijlemaiiobaaaW.PrintLast Go.Proofs.YtfijlemaiiobaaaW.PrintMore
/-- how many numbers are above c -/
def colN (p : List Int) (c : Int) : Nat := (p.filter (fun n => decide (c < n))).length
theorem column_ev (p : List Int) (c : Int) (hp : p.length ≤ 1048576) : Ev (fun k => impl_column.f k p c) (colN p c : Int) := by
  have key : ∀ i, i ≤ p.length → ∀ a : Nat, a ≤ i → Ev (fun k => impl_column.l0 k c (a : Int) p (p.length : Int) (i : Int)) ((a + colN (p.drop i) c : Nat) : Int) := by
    refine downTo p.length ?_ ?_
    · intro a _
      refine Ev.step (fun k => by rw [impl_column.l0]) (ev_neg (by omega) (ev_val ?_))
      simp [colN]
    · intro i hi ih a ha
      refine Ev.step (fun k => by rw [impl_column.l0]) (ev_pos (by omega) (ev_pos (by omega) (ev_pos (by omega) (ev_ite (fun h => ?_) (fun h => ?_)))))
      · rw [wrap_succ (by omega), wrap_succ (by omega)]
        refine ev_eq (ih (a + 1) (by omega)) ?_
        rw [drop_rd p i hi]
        simp only [colN, List.filter_cons]
        rw [if_pos (by simpa using h)]
        simp only [List.length_cons]
        congr 1; omega
      · rw [wrap_succ (by omega)]
        refine ev_eq (ih a (by omega)) ?_
        rw [drop_rd p i hi]
        simp only [colN, List.filter_cons]
        rw [if_neg (by simpa using h)]
  have := key 0 (by omega) 0 (by omega)
  unfold impl_column.f
  simpa using this
theorem part_prev : ∀ (l : List Int) (prev s : Int), partOk prev s l = true → ∀ x ∈ l, x ≤ prev
  | [], _, _, _ => by simp
  | y :: l, prev, s, h => by
    simp only [partOk, Bool.and_eq_true, decide_eq_true_eq] at h
    intro x hx
    rcases List.mem_cons.1 hx with rfl | hx
    · exact h.1.1.2
    · have := part_prev l y _ h.2 x hx
      omega
theorem part_first {p : List Int} (h : isPartition p = true) : ∀ x ∈ p, x ≤ rd p 0 := by
  cases p with
  | nil => simp
  | cons y l =>
    have h2 : partOk 9 0 (y :: l) = true := h
    simp only [partOk, Bool.and_eq_true, decide_eq_true_eq] at h2
    intro x hx
    have e : rd (y :: l) 0 = y := rfl
    rw [e]
    rcases List.mem_cons.1 hx with rfl | hx
    · exact Int.le_refl _
    · exact part_prev l y _ h2.2 x hx
def conj (p : List Int) : List Int := (List.range (rd p 0).toNat).map fun (j : Nat) => (colN p (j : Int) : Int)
theorem colN_pos {p : List Int} (h : isPartition p = true) (j : Nat) : 0 < colN p (j : Int) ↔ j < (rd p 0).toNat := by
  unfold colN
  rw [List.length_pos_iff_exists_mem]
  constructor
  · rintro ⟨x, hx⟩
    obtain ⟨h1, h2⟩ := List.mem_filter.1 hx
    have := part_first h x h1
    have h2 : (j : Int) < x := by simpa using h2
    omega
  · intro hj
    cases p with
    | nil => simp [rd] at hj
    | cons y l =>
      have e : rd (y :: l) 0 = y := rfl
      rw [e] at hj
      exact ⟨y, List.mem_filter.2 ⟨by simp, by simp; omega⟩⟩
theorem conjugate_ev (p : List Int) (h : isPartition p = true) : Ev (fun k => impl_Conjugate.f k p) (conj p) := by
  obtain ⟨_, g2, g3⟩ := isPartition_bd h
  have h0 : (rd p 0).toNat ≤ 9 := by
    cases p with
    | nil => simp [rd]
    | cons y l => have := g3 y (by simp); have e : rd (y :: l) 0 = y := rfl; rw [e]; omega
  unfold impl_Conjugate.f
  refine Ev.bind (impl_IsPartition_ev p (by omega)) ?_
  rw [h]
  refine ev_pos rfl ?_
  refine downTo (P := fun j => Ev (fun k => impl_Conjugate.l0 k p ((List.range j).map fun (j : Nat) => (colN p (j : Int) : Int)) (j : Int)) (conj p)) (rd p 0).toNat ?_ ?_ 0 (by omega)
  · refine Ev.step (fun k => by rw [impl_Conjugate.l0]) (Ev.bind (column_ev p _ (by omega)) (ev_neg ?_ (ev_val rfl)))
    have := colN_pos h (rd p 0).toNat
    omega
  · intro j hj hn
    have := (colN_pos h j).2 hj
    refine Ev.step (fun k => by rw [impl_Conjugate.l0]) (Ev.bind (column_ev p (j : Int) (by omega)) (ev_pos (show (colN p (j : Int) : Int) > 0 by omega) (Ev.bind (column_ev p (j : Int) (by omega)) (ev_pos (show ((List.range j).map fun (j : Nat) => (colN p (j : Int) : Int)).length < 17592186044416 by rw [List.length_map, List.length_range]; omega) ?_))))
    rw [wrap_succ (by omega)]
    have e : ((List.range j).map fun (j : Nat) => (colN p (j : Int) : Int)) ++ [(colN p (j : Int) : Int)] = (List.range (j + 1)).map fun (j : Nat) => (colN p (j : Int) : Int) := by simp [List.range_succ]
    rw [e]
    exact hn
theorem isum_snoc (l : List Int) (x : Int) : isum (l ++ [x]) = isum l + x := by
  induction l with
  | nil => simp [isum]
  | cons y l ih => simp only [List.cons_append, isum, ih]; omega
theorem firstCols_succ (J : Nat) : ∀ m : List (List Int), firstCols (J + 1) m = firstCols J m + colN (lens m) (J : Int)
  | [] => by simp [firstCols, colN, lens]
  | r :: l => by
    have := firstCols_succ J l
    simp only [firstCols, colN, lens, List.map_cons, List.sum_cons, List.filter_cons] at this ⊢
    by_cases h : J < r.length
    · rw [if_pos (by simpa using h), List.length_cons]; omega
    · rw [if_neg (by simpa using h)]; omega
theorem isum_cols (m : List (List Int)) : ∀ J : Nat, isum ((List.range J).map fun (j : Nat) => (colN (lens m) (j : Int) : Int)) = (firstCols J m : Int)
  | 0 => by
    have : ∀ m : List (List Int), firstCols 0 m = 0 := fun m => by
      induction m with
      | nil => rfl
      | cons r l ih => simp only [firstCols, List.map_cons, List.sum_cons] at ih ⊢; omega
    rw [this]; rfl
  | J + 1 => by
    rw [List.range_succ, List.map_append, List.map_singleton, isum_snoc, isum_cols m J, firstCols_succ]
    omega
theorem firstCols_cut (m : List (List Int)) (h K : Nat) (hm : ∀ r ∈ m, r.length ≤ h) : firstCols (min K h) m = firstCols K m := by
  unfold firstCols
  congr 1
  refine List.map_congr_left (fun r hr => ?_)
  have := hm r hr
  omega
theorem isum_conj (m : List (List Int)) (h : isPartition (lens m) = true) (K : Nat) : isum ((conj (lens m)).take K) = (firstCols K m : Int) := by
  unfold conj
  rw [← List.map_take, List.take_range, isum_cols, firstCols_cut]
  intro r hr
  have := part_first h (r.length : Int) (List.mem_map.2 ⟨r, hr, rfl⟩)
  omega
theorem conj_bd {p : List Int} (h : isPartition p = true) : (conj p).length ≤ 9 ∧ ∀ x ∈ conj p, 0 ≤ x ∧ x ≤ 1000000 := by
  obtain ⟨_, g2, g3⟩ := isPartition_bd h
  have h0 : (rd p 0).toNat ≤ 9 := by
    cases p with
    | nil => simp [rd]
    | cons y l => have := g3 y (by simp); have e : rd (y :: l) 0 = y := rfl; rw [e]; omega
  refine ⟨by simpa [conj] using h0, fun x hx => ?_⟩
  obtain ⟨j, _, rfl⟩ := List.mem_map.1 hx
  have : colN p (j : Int) ≤ p.length := List.length_filter_le ..
  omega
end Go.Proofs.Ytfijlemaiiobaaa.Q
