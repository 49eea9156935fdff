/- StandardizeWord, of the program and of the reference: the places of the word's numbers, the empty list for no word; condition: at most 2^20 elements. -/
import Derived.Test.YtekjnjejgefbhaaF0
import Derived.Test.YtekjnjejgefbhaaF1
import Derived.Test.YtekjnjejgefbhaaF2
import Derived.Test.YtekjnjejgefbhaaQBase
import Derived.Test.YtekjnjejgefbhaaQOnce
import Derived.Test.YtekjnjejgefbhaaQIsWord
import Derived.Test.YtekjnjejgefbhaaQBit
set_option linter.unusedVariables false
set_option linter.unusedSimpArgs false
namespace Go.Proofs.Ytekjnjejgefbhaa.Q
open Go.RowKit Go.Proofs.Ytekjnjejgefbhaa.F Go.Proofs.YtekjnjejgefbhaaW.PrintWords Go.Proofs.YtekjnjejgefbhaaW.PrintLast Go.Proofs.YtekjnjejgefbhaaW.PrintMore
def standardize (l : List Int) : List Int := if isWord l then places l else []
theorem standardize_le (l : List Int) : (standardize l).length ≤ 9 := by
  unfold standardize
  split
  · rename_i h; rw [places_length]; exact (isWord_iff.1 h).1
  · simp
theorem range_snoc (l : List Int) (i : Nat) : (List.range (i + 1)).map (placeOf l) = (List.range i).map (placeOf l) ++ [placeOf l i] := by simp [List.range_succ]
theorem placeTo_le' (l : List Int) (i j : Nat) : placeTo l i j ≤ j := by have := placeTo_le l i j; omega
theorem spec_Stand_l1 (l : List Int) (hl : l.length ≤ 9) (acc : List Int) (ha : acc.length ≤ 9) (i : Nat) (hi : i < l.length) (r : List Int)
    (hr : Ev (fun k => spec_StandardizeWord.l0 k l (acc ++ [placeOf l i]) ((i + 1 : Nat) : Int)) r) :
    Ev (fun k => spec_StandardizeWord.l1 k l acc (i : Int) 1 0) r := by
  refine downTo (P := fun j => Ev (fun k => spec_StandardizeWord.l1 k l acc (i : Int) ((1 + placeTo l i j : Nat) : Int) (j : Int)) r) l.length ?_ ?_ 0 (by omega)
  · refine Ev.step (fun k => by rw [spec_StandardizeWord.l1]) ?_
    refine ev_neg (by omega) (ev_pos (by omega) ?_)
    rw [wrap_succ (by omega)]
    exact hr
  · intro j hj ih
    have hle := placeTo_le' l i j
    rw [placeTo] at ih
    refine Ev.step (fun k => by rw [spec_StandardizeWord.l1]) ?_
    refine ev_pos (by omega) (ev_pos (by omega) (ev_pos (by omega) (ev_pos (by omega) (ev_ite (fun h1 => ?_) (fun h1 => ev_ite (fun h2 => ?_) (fun h2 => ?_))))))
    · refine ev_bindc (b := 1) rfl ?_
      rw [if_pos (.inl h1)] at ih
      rw [wrap_succ (by omega), wrap_succ (by omega)]
      exact ih
    · refine ev_bindc (l1Bit_dec _) ?_
      by_cases h3 : j < i
      · rw [if_pos (.inr ⟨h2, h3⟩)] at ih
        rw [if_pos (by omega), wrap_succ (by omega), wrap_succ (by omega)]
        exact ih
      · rw [if_neg (by omega)] at ih
        rw [if_neg (by omega), Int.add_zero, wrap_nat (by omega), wrap_succ (by omega)]
        exact ih
    · refine ev_bindc (b := 0) rfl ?_
      rw [if_neg (by omega)] at ih
      rw [Int.add_zero, wrap_nat (by omega), wrap_succ (by omega)]
      exact ih
theorem spec_StandardizeWord_ev (l : List Int) (hl : l.length ≤ 1048576) : Ev (fun k => spec_StandardizeWord.f k l) (standardize l) := by
  unfold spec_StandardizeWord.f standardize
  by_cases hw : isWord l = true
  · rw [if_pos hw]
    have h9 := (isWord_iff.1 hw).1
    refine downTo (P := fun i => Ev (fun k => spec_StandardizeWord.l0 k l ((List.range i).map (placeOf l)) (i : Int)) (places l)) l.length ?_ ?_ 0 (by omega)
    · refine Ev.step (fun k => by rw [spec_StandardizeWord.l0]) ?_
      refine ev_neg (by omega) (Ev.step (fun k => by rw [spec_StandardizeWord.j1]) ?_)
      exact ev_neg (by simp) (ev_val rfl)
    · intro i hi ih
      refine Ev.step (fun k => by rw [spec_StandardizeWord.l0]) ?_
      refine ev_pos (by omega) (Ev.bind (spec_IsWord_ev l hl) (Ev.step (fun k => by rw [spec_StandardizeWord.j1]) ?_))
      refine ev_pos hw (spec_Stand_l1 l h9 _ (by simp; omega) i hi _ ?_)
      rw [← range_snoc]; exact ih
  · rw [if_neg hw]
    refine Ev.step (fun k => by rw [spec_StandardizeWord.l0]) ?_
    refine ev_ite (fun _ => Ev.bind (spec_IsWord_ev l hl) (Ev.step (fun k => by rw [spec_StandardizeWord.j1]) ?_)) (fun _ => Ev.step (fun k => by rw [spec_StandardizeWord.j1]) ?_)
    · exact ev_neg hw (ev_val rfl)
    · exact ev_neg (by simp) (ev_val rfl)
theorem impl_Stand_l1 (l : List Int) (hl : l.length ≤ 9) (acc : List Int) (ha : acc.length ≤ 9) (i : Nat) (hi : i < l.length) (r : List Int)
    (hr : Ev (fun k => impl_StandardizeWord.l0 k l (acc ++ [placeOf l i]) l (l.length : Int) ((i + 1 : Nat) : Int)) r) :
    Ev (fun k => impl_StandardizeWord.l1 k l acc (i : Int) (rd l (i : Int)) 1 l (l.length : Int) (i : Int) l (l.length : Int) 0) r := by
  refine downTo (P := fun j => Ev (fun k => impl_StandardizeWord.l1 k l acc (i : Int) (rd l (i : Int)) ((1 + placeTo l i j : Nat) : Int) l (l.length : Int) (i : Int) l (l.length : Int) (j : Int)) r) l.length ?_ ?_ 0 (by omega)
  · refine Ev.step (fun k => by rw [impl_StandardizeWord.l1]) ?_
    refine ev_neg (by omega) (ev_pos (by omega) ?_)
    rw [wrap_succ (by omega)]
    exact hr
  · intro j hj ih
    have hle := placeTo_le' l i j
    rw [placeTo] at ih
    refine Ev.step (fun k => by rw [impl_StandardizeWord.l1]) ?_
    refine ev_pos (by omega) (ev_pos (by omega) (ev_pos (by omega) (ev_ite (fun h1 => ?_) (fun h1 => ev_ite (fun h2 => ev_ite (fun h3 => ?_) (fun h3 => ?_)) (fun h2 => ?_)))))
    · rw [if_pos (.inl h1)] at ih
      rw [wrap_succ (by omega), wrap_succ (by omega)]
      exact ih
    · rw [if_pos (.inr ⟨h2, by omega⟩)] at ih
      rw [wrap_succ (by omega), wrap_succ (by omega)]
      exact ih
    · rw [if_neg (by omega)] at ih
      rw [wrap_succ (by omega)]
      exact ih
    · rw [if_neg (by omega)] at ih
      rw [wrap_succ (by omega)]
      exact ih
theorem impl_StandardizeWord_ev (l : List Int) (hl : l.length ≤ 1048576) : Ev (fun k => impl_StandardizeWord.f k l) (standardize l) := by
  unfold impl_StandardizeWord.f standardize
  refine ev_bindc (impl_IsWord_eq l) (ev_ite (fun hw => ?_) (fun hw => ev_val (by rw [if_neg hw])))
  rw [if_pos hw]
  have h9 := (isWord_iff.1 hw).1
  refine downTo (P := fun i => Ev (fun k => impl_StandardizeWord.l0 k l ((List.range i).map (placeOf l)) l (l.length : Int) (i : Int)) (places l)) l.length ?_ ?_ 0 (by omega)
  · refine Ev.step (fun k => by rw [impl_StandardizeWord.l0]) ?_
    exact ev_neg (by omega) (ev_val rfl)
  · intro i hi ih
    refine Ev.step (fun k => by rw [impl_StandardizeWord.l0]) ?_
    refine ev_pos (by omega) (ev_pos (by omega) (ev_pos (by omega) (impl_Stand_l1 l h9 _ (by simp; omega) i hi _ ?_)))
    rw [← range_snoc]; exact ih
end Go.Proofs.Ytekjnjejgefbhaa.Q
