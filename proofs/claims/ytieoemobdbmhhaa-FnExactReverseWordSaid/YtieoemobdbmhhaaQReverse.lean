/- ReverseWord, of the program and of the reference: the word from the last number to the first, the empty list for no word; condition: at most 2^20 elements. -/
import Derived.Test.YtieoemobdbmhhaaF0
import Derived.Test.YtieoemobdbmhhaaF5
import Derived.Test.YtieoemobdbmhhaaF6
import Derived.Test.YtieoemobdbmhhaaQBase
import Derived.Test.YtieoemobdbmhhaaQOnce
import Derived.Test.YtieoemobdbmhhaaQIsWord
set_option linter.unusedVariables false
set_option linter.unusedSimpArgs false
namespace Go.Proofs.Ytieoemobdbmhhaa.Q
open Go.RowKit Go.Proofs.Ytieoemobdbmhhaa.F Go.Proofs.YtieoemobdbmhhaaW.PrintWords Go.Proofs.YtieoemobdbmhhaaW.PrintLast Go.Proofs.YtieoemobdbmhhaaW.PrintMore
def reverseWord (l : List Int) : List Int := if isWord l then l.reverse else []
theorem reverseWord_le (l : List Int) : (reverseWord l).length ≤ 9 := by
  unfold reverseWord
  split
  · rename_i h; rw [List.length_reverse]; exact (isWord_iff.1 h).1
  · simp
theorem slices_Reverse_ev (l : List Int) (hl : l.length ≤ 1048576) : Ev (fun k => slices_Reverse_int_int.f k l) l.reverse := by
  unfold slices_Reverse_int_int.f
  rw [wrap_id (by omega) (by omega)]
  have key : ∀ i, i ≤ l.length / 2 → ∀ x : List Int, x.length = l.length → (∀ j, j < l.length → rd x (j : Int) = if j < i ∨ l.length - 1 - i < j then rd l ((l.length - 1 - j : Nat) : Int) else rd l (j : Int)) →
      Ev (fun k => slices_Reverse_int_int.l0 k x (i : Int) ((l.length : Int) - 1 - i)) l.reverse := by
    refine downTo (l.length / 2) ?_ ?_
    · intro x hx hg
      refine Ev.step (fun k => by rw [slices_Reverse_int_int.l0]) ?_
      refine ev_neg (by omega) (ev_val (ext_rd (by simpa using hx) (fun j hj => ?_)))
      rw [rd_reverse l j (by omega), hg j (by omega)]
      split
      · rfl
      · congr 1; omega
    · intro i hi ih x hx hg
      have e1 : (l.length : Int) - 1 - i = ((l.length - 1 - i : Nat) : Int) := by omega
      refine Ev.step (fun k => by rw [slices_Reverse_int_int.l0]) ?_
      rw [e1]
      refine ev_pos (by omega) (ev_pos (by omega) (ev_pos (by omega) (ev_pos (by omega) (ev_pos (by omega) ?_))))
      rw [wrap_succ (by omega), wrap_id (by omega) (by omega), Int.toNat_natCast, Int.toNat_natCast]
      have e2 : (((l.length - 1 - i : Nat) : Int) - 1) = (l.length : Int) - 1 - ((i + 1 : Nat) : Int) := by omega
      rw [e2]
      refine ih _ (by simpa using hx) (fun j hj => ?_)
      rw [rd_set _ _ _ _ (by rw [List.length_set]; omega), rd_set _ _ _ _ (by omega)]
      by_cases h1 : l.length - 1 - i = j
      · rw [if_pos h1, if_pos (by omega), hg i (by omega), if_neg (by omega)]
        congr 1; omega
      · rw [if_neg h1]
        by_cases h2 : i = j
        · rw [if_pos h2, if_pos (by omega), hg _ (by omega), if_neg (by omega)]
          congr 1; omega
        · rw [if_neg h2, hg j hj]
          by_cases h3 : j < i ∨ l.length - 1 - i < j
          · rw [if_pos h3, if_pos (by omega)]
          · rw [if_neg h3, if_neg (by omega)]
  have := key 0 (by omega) l rfl (fun j hj => by rw [if_neg (by omega)])
  simpa using this
theorem impl_ReverseWord_ev (l : List Int) (hl : l.length ≤ 1048576) : Ev (fun k => impl_ReverseWord.f k l) (reverseWord l) := by
  unfold impl_ReverseWord.f reverseWord
  refine ev_bindc (impl_IsWord_eq l) (ev_ite (fun hw => ?_) (fun hw => ev_val (by rw [if_neg hw])))
  rw [if_pos hw]
  refine ev_bindc (b := l) (by unfold slices_Clone_int_int.f; rw [if_pos (by omega)]) ?_
  exact Ev.bind (slices_Reverse_ev l hl) (ev_val rfl)
theorem spec_ReverseWord_ev (l : List Int) (hl : l.length ≤ 1048576) : Ev (fun k => spec_ReverseWord.f k l) (reverseWord l) := by
  unfold spec_ReverseWord.f reverseWord
  by_cases hw : isWord l = true
  · rw [if_pos hw]
    have key : ∀ i, i ≤ l.length → Ev (fun k => spec_ReverseWord.l0 k l ((l.drop i).reverse) ((i : Int) - 1)) l.reverse := by
      intro i
      induction i with
      | zero =>
        intro _
        refine Ev.step (fun k => by rw [spec_ReverseWord.l0]) ?_
        exact ev_neg (by omega) (ev_val (by simp))
      | succ i ih =>
        intro hi
        refine Ev.step (fun k => by rw [spec_ReverseWord.l0]) ?_
        rw [show ((i + 1 : Nat) : Int) - 1 = (i : Int) by omega]
        refine ev_pos (by omega) (Ev.bind (spec_IsWord_ev l hl) (ev_pos hw (ev_pos (by omega) (ev_pos (by omega) (ev_pos (by simp; omega) ?_)))))
        rw [wrap_id (by omega) (by omega)]
        have := ih (by omega)
        rw [drop_rd l i (by omega), List.reverse_cons] at this
        exact this
    have := key l.length (by omega)
    rw [List.drop_length] at this
    rw [wrap_id (by omega) (by omega)]
    exact this
  · rw [if_neg hw, wrap_id (by omega) (by omega)]
    have hne : l ≠ [] := fun e => hw (by rw [e]; rfl)
    have hpos : 0 < l.length := List.length_pos_iff.2 hne
    refine Ev.step (fun k => by rw [spec_ReverseWord.l0]) ?_
    exact ev_pos (by omega) (Ev.bind (spec_IsWord_ev l hl) (ev_neg hw (ev_val rfl)))
end Go.Proofs.Ytieoemobdbmhhaa.Q
