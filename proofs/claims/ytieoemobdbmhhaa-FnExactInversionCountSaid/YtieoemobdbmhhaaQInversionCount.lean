/- InversionCount, of the program and of the reference: the number of inversions, -1 for no word; condition: at most 2^20 elements. -/
import Derived.Test.YtieoemobdbmhhaaF1
import Derived.Test.YtieoemobdbmhhaaF2
import Derived.Test.YtieoemobdbmhhaaQBase
import Derived.Test.YtieoemobdbmhhaaQIsWord
import Derived.Test.YtieoemobdbmhhaaQBit
set_option linter.unusedVariables false
set_option linter.unusedSimpArgs false
namespace Go.Proofs.Ytieoemobdbmhhaa.Q
open Go.RowKit Go.Proofs.Ytieoemobdbmhhaa.F Go.Proofs.YtieoemobdbmhhaaW.PrintWords Go.Proofs.YtieoemobdbmhhaaW.PrintLast Go.Proofs.YtieoemobdbmhhaaW.PrintMore
/-- how many of the numbers of l are greater than x -/
def above (x : Int) (l : List Int) : Nat := (l.filter (fun y => decide (y > x))).length
/-- the inversions of which the second number stands at index i or later -/
def invFrom (l : List Int) : Nat → Nat → Nat
  | 0, _ => 0
  | d + 1, i => above (rd l (i : Int)) (l.take i) + invFrom l d (i + 1)
def inversionCount (l : List Int) : Int := if isWord l then (invFrom l l.length 0 : Int) else -1
theorem above_le (x : Int) (l : List Int) : above x l ≤ l.length := List.length_filter_le _ _
theorem above_snoc (x y : Int) (l : List Int) : above x (l ++ [y]) = above x l + (if y > x then 1 else 0) := by
  unfold above
  rw [List.filter_append]
  by_cases h : y > x <;> simp [h]
theorem spec_Inv_l1 (l : List Int) (hl : l.length ≤ 9) (i m : Nat) (hi : i < l.length) (hm : m ≤ 9 * i) (r : Int)
    (hr : Ev (fun k => spec_InversionCount.l0 k l ((m + above (rd l (i : Int)) (l.take i) : Nat) : Int) ((i + 1 : Nat) : Int)) r) :
    ∀ (d j : Nat), j + d = i → Ev (fun k => spec_InversionCount.l1 k l ((m + above (rd l (i : Int)) (l.take j) : Nat) : Int) (i : Int) (j : Int)) r := by
  intro d
  induction d with
  | zero =>
    intro j h
    obtain rfl : j = i := by omega
    refine Ev.step (fun k => by rw [spec_InversionCount.l1]) ?_
    refine ev_neg (by omega) ?_
    rw [wrap_succ (by omega)]
    exact hr
  | succ d ih =>
    intro j h
    have hle := above_le (rd l (i : Int)) (l.take j)
    have hlt : (l.take j).length ≤ j := List.length_take_le _ _
    refine Ev.step (fun k => by rw [spec_InversionCount.l1]) ?_
    refine ev_pos (by omega) (ev_pos (by omega) (ev_pos (by omega) (ev_pos (by omega) (ev_pos (by omega) (ev_bindc (l1Bit_dec _) ?_)))))
    have := ih (j + 1) (by omega)
    rw [take_rd l j (by omega), above_snoc] at this
    rw [wrap_succ (by omega)]
    by_cases hd : rd l (j : Int) > rd l (i : Int)
    · rw [if_pos hd] at this ⊢
      rw [wrap_succ (by omega)]
      exact this
    · rw [if_neg hd] at this ⊢
      rw [Int.add_zero, wrap_nat (by omega)]
      exact this
theorem spec_Inv_l0 (l : List Int) (hl : l.length ≤ 9) : ∀ (d i m : Nat), i + d = l.length → m ≤ 9 * i → Ev (fun k => spec_InversionCount.l0 k l (m : Int) (i : Int)) ((m + invFrom l d i : Nat) : Int) := by
  intro d
  induction d with
  | zero => intro i m h hm; refine Ev.step (fun k => by rw [spec_InversionCount.l0]) ?_; exact ev_neg (by omega) (ev_val rfl)
  | succ d ih =>
    intro i m h hm
    refine Ev.step (fun k => by rw [spec_InversionCount.l0]) ?_
    refine ev_pos (by omega) ?_
    have hle := above_le (rd l (i : Int)) (l.take i)
    have hlt : (l.take i).length ≤ i := List.length_take_le _ _
    have := spec_Inv_l1 l hl i m (by omega) hm _ (ih (i + 1) (m + above (rd l (i : Int)) (l.take i)) (by omega) (by omega)) i 0 (by omega)
    rw [show above (rd l (i : Int)) (l.take 0) = 0 from by simp [above], Nat.add_zero] at this
    refine ev_eq this ?_
    rw [invFrom]; congr 1; omega
theorem spec_InversionCount_ev (l : List Int) (hl : l.length ≤ 1048576) : Ev (fun k => spec_InversionCount.f k l) (inversionCount l) := by
  unfold spec_InversionCount.f inversionCount
  refine Ev.bind (spec_IsWord_ev l hl) (ev_ite (fun hw => ?_) (fun hw => ev_val (by simp [hw])))
  rw [if_pos hw]
  have h9 := (isWord_iff.1 hw).1
  cases h : l.length with
  | zero => refine Ev.step (fun k => by rw [spec_InversionCount.l0]) ?_; exact ev_neg (by omega) (ev_val rfl)
  | succ d =>
    have := spec_Inv_l0 l h9 d 1 0 (by omega) (by omega)
    refine ev_eq this ?_
    rw [invFrom]; simp [above]
theorem impl_Inv_l1 (l : List Int) (hl : l.length ≤ 9) (i m : Nat) (hi : i < l.length) (hm : m ≤ 9 * i) (r : Int)
    (hr : Ev (fun k => impl_InversionCount.l0 k l ((m + above (rd l (i : Int)) (l.take i) : Nat) : Int) (l.length : Int) ((i + 1 : Nat) : Int)) r) :
    ∀ (d j : Nat), j + d = i → Ev (fun k => impl_InversionCount.l1 k l ((m + above (rd l (i : Int)) (l.take j) : Nat) : Int) (i : Int) (l.length : Int) (i : Int) (i : Int) (j : Int)) r := by
  intro d
  induction d with
  | zero =>
    intro j h
    obtain rfl : j = i := by omega
    refine Ev.step (fun k => by rw [impl_InversionCount.l1]) ?_
    refine ev_neg (by omega) ?_
    rw [wrap_succ (by omega)]
    exact hr
  | succ d ih =>
    intro j h
    have hle := above_le (rd l (i : Int)) (l.take j)
    have hlt : (l.take j).length ≤ j := List.length_take_le _ _
    refine Ev.step (fun k => by rw [impl_InversionCount.l1]) ?_
    refine ev_pos (by omega) (ev_pos (by omega) (ev_pos (by omega) (ev_pos (by omega) (ev_pos (by omega) ?_))))
    have := ih (j + 1) (by omega)
    rw [take_rd l j (by omega), above_snoc] at this
    rw [wrap_succ (by omega), wrap_succ (by omega)]
    refine ev_ite (fun hd => ?_) (fun hd => ?_)
    · rw [if_pos hd] at this; exact this
    · rw [if_neg hd] at this; exact this
theorem impl_Inv_l0 (l : List Int) (hl : l.length ≤ 9) : ∀ (d i m : Nat), i + d = l.length → m ≤ 9 * i → Ev (fun k => impl_InversionCount.l0 k l (m : Int) (l.length : Int) (i : Int)) ((m + invFrom l d i : Nat) : Int) := by
  intro d
  induction d with
  | zero => intro i m h hm; refine Ev.step (fun k => by rw [impl_InversionCount.l0]) ?_; exact ev_neg (by omega) (ev_val rfl)
  | succ d ih =>
    intro i m h hm
    refine Ev.step (fun k => by rw [impl_InversionCount.l0]) ?_
    refine ev_pos (by omega) ?_
    have hle := above_le (rd l (i : Int)) (l.take i)
    have hlt : (l.take i).length ≤ i := List.length_take_le _ _
    have := impl_Inv_l1 l hl i m (by omega) hm _ (ih (i + 1) (m + above (rd l (i : Int)) (l.take i)) (by omega) (by omega)) i 0 (by omega)
    rw [show above (rd l (i : Int)) (l.take 0) = 0 from by simp [above], Nat.add_zero] at this
    refine ev_eq this ?_
    rw [invFrom]; congr 1; omega
theorem impl_InversionCount_ev (l : List Int) (hl : l.length ≤ 1048576) : Ev (fun k => impl_InversionCount.f k l) (inversionCount l) := by
  unfold impl_InversionCount.f inversionCount
  refine ev_bindc (impl_IsWord_eq l) (ev_ite (fun hw => ?_) (fun hw => ev_val (by simp [hw])))
  rw [if_pos hw]
  have h9 := (isWord_iff.1 hw).1
  have := impl_Inv_l0 l h9 l.length 0 0 (by omega) (by omega)
  simpa using this
end Go.Proofs.Ytieoemobdbmhhaa.Q
