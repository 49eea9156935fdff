/- The shape of a word's rows: their lengths, which are a partition; and the sum of the first of them; condition: at most 2^20 numbers. -/
import Derived.Test.YtfijlemaiiobaaaF0
import Derived.Test.YtfijlemaiiobaaaF4
import Derived.Test.YtfijlemaiiobaaaQBase
import Derived.Test.YtfijlemaiiobaaaQRows
import Derived.Test.YtfijlemaiiobaaaQSum
import Derived.Test.YtfijlemaiiobaaaQPart
import Derived.Test.YtfijlemaiiobaaaQInside
import Derived.Test.YtfijlemaiiobaaaQShapeOf
import Derived.Test.YtfijlemaiiobaaaQInsertWord
import Derived.Test.YtfijlemaiiobaaaQShapeOfWord
import Derived.Test.YtfijlemaiiobaaaQGreene
set_option linter.unusedVariables false
set_option linter.unusedSimpArgs false
namespace Go.Proofs.Ytfijlemaiiobaaa.Q
open Go.RowKit Go.Proofs.Ytfijlemaiiobaaa.F Go.Proofs.YtfijlemaiiobaaaW.PrintWords Go.Proofs.YtfijlemaiiobaaaW.PrintLast Go.Proofs.YtfijlemaiiobaaaW.PrintMore
def lens (m : List (List Int)) : List Int := m.map fun r => (r.length : Int)
theorem outer_lens (m : List (List Int)) : outerOf [] m = lens m := by
  refine List.ext_getElem (by simp [outerOf, lens]) (fun i h1 h2 => ?_)
  rw [outerOf_length] at h1
  have e := outerOf_rd [] m i h1
  rw [rd_eq _ i (by rw [outerOf_length]; exact h1), at0_out _ _ (.inr (by simp)), rows_nat, List.getD_eq_getElem?_getD, List.getElem?_eq_getElem h1] at e
  rw [e]
  simp [lens]
theorem lens_part : ∀ (m : List (List Int)) (prev s : Int), Tabl m → (∀ r, m.head? = some r → (r.length : Int) ≤ prev) → 0 ≤ s → s + (bulk m : Int) ≤ 9 → partOk prev s (lens m) = true
  | [], _, _, _, _, _, _ => rfl
  | r :: l, prev, s, ht, hp, hs, hb => by
    have h1 := hp r rfl
    have h2 : 1 ≤ r.length := by
      have := ht.head.2
      cases r with
      | nil => exact absurd rfl this
      | cons a r => simp
    simp only [bulk] at hb
    have h3 := lens_part l (r.length : Int) (s + (r.length : Int)) ht.tail (fun q hq => by
      cases l with
      | nil => simp at hq
      | cons q' l =>
        obtain rfl : q' = q := by simpa using hq
        have := ht.next.1
        omega) (by omega) (by omega)
    simp only [lens, List.map_cons, partOk, Bool.and_eq_true, decide_eq_true_eq] at h3 ⊢
    exact ⟨⟨⟨by omega, by omega⟩, by omega⟩, h3⟩
theorem lens_isPart (l : List Int) (h : l.length ≤ 9) : isPartition (lens (insAll l)) = true := by
  have h1 := (insAll_small l).1
  refine lens_part _ 9 0 (insAll_tabl l) (fun r hr => ?_) (by omega) (by omega)
  have := insAll_rows l r (List.mem_of_mem_head? hr)
  omega
theorem shape_ins (l : List Int) (h : l.length ≤ 9) : (shapeOf [] (insAll l)).1 = lens (insAll l) := by
  have h1 := lens_isPart l h
  have h2 : hasShape [] (insAll l) = true := by
    unfold hasShape isInside
    rw [outer_lens, h1]
    simp [isPartition, partOk]
  unfold shapeOf
  rw [if_pos h2, outer_lens]
theorem shapeOfWord_lens {l : List Int} (h : isWord l = true) : shapeOfWord l = lens (insAll l) := by
  rw [shapeOfWord, if_pos h, shape_ins l (isWord_iff.1 h).1]
theorem isum_take_lens : ∀ (K : Nat) (m : List (List Int)), isum ((lens m).take K) = (firstRows K m : Int)
  | 0, m => by simp [isum, firstRows]
  | K + 1, [] => by simp [isum, firstRows, lens]
  | K + 1, r :: l => by
    have := isum_take_lens K l
    simp only [lens, firstRows, List.map_cons, List.take_succ_cons, isum, List.sum_cons] at this ⊢
    rw [this]; omega
theorem first_ev (l : List Int) (K : Nat) (hl : l.length ≤ 1048576) (h : ∀ x ∈ l, 0 ≤ x ∧ x ≤ 1000000) : Ev (fun k => impl_first.f k l (K : Int)) (isum (l.take K)) := by
  have e : (mn (K : Int) (l.length : Int)).toNat = min K l.length := by unfold mn; split <;> omega
  have e2 : mn (K : Int) (l.length : Int) = ((min K l.length : Nat) : Int) := by unfold mn; split <;> omega
  unfold impl_first.f
  rw [e2, Int.toNat_natCast]
  have e3 : l.take (min K l.length) = l.take K := by rw [← List.take_eq_take_min]
  rw [e3]
  refine ev_pos (by omega) (ev_pos (by omega) (Ev.bind (impl_sum_ev (l.take K) (by rw [List.length_take]; omega) (fun x hx => h x (List.mem_of_mem_take hx))) (ev_val rfl)))
theorem lens_bd (l : List Int) (h : l.length ≤ 9) : (lens (insAll l)).length ≤ 1048576 ∧ ∀ x ∈ lens (insAll l), 0 ≤ x ∧ x ≤ 1000000 := by
  obtain ⟨_, g2, g3⟩ := isPartition_bd (lens_isPart l h)
  exact ⟨by omega, fun x hx => by have := g3 x hx; omega⟩
end Go.Proofs.Ytfijlemaiiobaaa.Q
