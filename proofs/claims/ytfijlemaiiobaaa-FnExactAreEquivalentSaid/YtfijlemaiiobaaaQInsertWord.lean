/- InsertWord, of the program and of the reference: both put the numbers one after the other into rows; condition: at most 2^20 numbers. -/
import Derived.Test.YtfijlemaiiobaaaF0
import Derived.Test.YtfijlemaiiobaaaF4
import Derived.Test.YtfijlemaiiobaaaF6
import Derived.Test.YtfijlemaiiobaaaQBase
import Derived.Test.YtfijlemaiiobaaaQRows
import Derived.Test.YtfijlemaiiobaaaQIsIn
import Derived.Test.YtfijlemaiiobaaaQIsWord
import Derived.Test.YtfijlemaiiobaaaQUpTo
set_option linter.unusedVariables false
set_option linter.unusedSimpArgs false
namespace Go.Proofs.Ytfijlemaiiobaaa.Q
open Go.RowKit Go.Proofs.Ytfijlemaiiobaaa.F Go.Proofs.YtfijlemaiiobaaaW.PrintWords Go.Proofs.YtfijlemaiiobaaaW.PrintLast Go.Proofs.YtfijlemaiiobaaaW.PrintMore
theorem both_fst (w : List Int) (ns : Nat → Int) : ∀ i, i ≤ w.length → (bothAt w ns i).1 = (w.take i).foldl insRows []
  | 0, _ => by simp [bothAt]
  | i + 1, h => by
    show insRows (bothAt w ns i).1 (rd w (i : Int)) = _
    rw [both_fst w ns i (by omega), take_rd w i (by omega), List.foldl_append]
    rfl
theorem both_congr (w : List Int) (ns ns' : Nat → Int) : ∀ i, (∀ k, k < i → ns k = ns' k) → bothAt w ns i = bothAt w ns' i
  | 0, _ => rfl
  | i + 1, h => by
    show (insRows _ _, recQ _ _ _) = (insRows _ _, recQ _ _ _)
    rw [both_congr w ns ns' i (fun k hk => h k (by omega)), h i (by omega)]
/-- the rows of a word -/
def insAll (w : List Int) : List (List Int) := w.foldl insRows []
theorem both_insAll (w : List Int) (ns : Nat → Int) : (bothAt w ns w.length).1 = insAll w := by
  rw [both_fst w ns w.length (Nat.le_refl _), List.take_length]; rfl
theorem impl_InsertWord_ev (l : List Int) : Ev (fun k => impl_InsertWord.f k l) (if isWord l then ([], insAll l, true) else ([], [], false)) := by
  unfold impl_InsertWord.f
  refine ev_bindc (impl_IsWord_eq l) (ev_ite (fun h => ?_) (fun h => ev_val (by rw [if_neg h])))
  have h9 := (isWord_iff.1 h).1
  rw [if_pos h]
  refine Ev.bind (upTo_ev l.length (by omega)) (ev_pos ⟨by omega, by simp⟩ (ev_val ?_))
  rw [both_insAll]
theorem spec_InsertWord_ev (l : List Int) (hl : l.length ≤ 1048576) : Ev (fun k => spec_InsertWord.f k l) (if isWord l then ([], insAll l, true) else ([], [], false)) := by
  unfold spec_InsertWord.f
  refine Ev.bind (spec_IsWord_ev l hl) (ev_ite (fun h => ?_) (fun h => ev_val (by rw [if_neg h])))
  have h9 := (isWord_iff.1 h).1
  rw [if_pos h]
  refine ev_pos (by omega) (ev_val ?_)
  rw [both_insAll]
theorem bulk_ins : ∀ (p : List (List Int)) (x : Int), bulk (insRows p x) = bulk p + 1
  | [], _ => rfl
  | r :: l, x => by
    simp only [insRows]
    split
    · simp only [bulk, List.length_append, List.length_cons, List.length_nil]; omega
    · simp only [bulk, List.length_set]; rw [bulk_ins l _]; omega
theorem len_ins (p : List (List Int)) (x : Int) : (insRows p x).length ≤ p.length + 1 := by
  rcases insRows_length p x with h | h <;> omega
theorem insAll_small (w : List Int) : bulk (insAll w) = w.length ∧ (insAll w).length ≤ w.length := by
  suffices h : ∀ (w : List Int) (p : List (List Int)), bulk (w.foldl insRows p) = bulk p + w.length ∧ (w.foldl insRows p).length ≤ p.length + w.length by
    have := h w []
    simp only [bulk, List.length_nil, Nat.zero_add] at this
    exact this
  intro w
  induction w with
  | nil => intro p; exact ⟨by simp, by simp⟩
  | cons x w ih =>
    intro p
    obtain ⟨h1, h2⟩ := ih (insRows p x)
    rw [bulk_ins] at h1
    have := len_ins p x
    simp only [List.foldl_cons, List.length_cons]
    exact ⟨by omega, by omega⟩
end Go.Proofs.Ytfijlemaiiobaaa.Q
