/- DescentCount, of the program and of the reference: the number of descents, -1 for no word; condition: at most 2^20 elements. -/
import Derived.Test.YtieoemobdbmhhaaF1
import Derived.Test.YtieoemobdbmhhaaF2
import Derived.Test.YtieoemobdbmhhaaQBase
import Derived.Test.YtieoemobdbmhhaaQIsWord
import Derived.Test.YtieoemobdbmhhaaQBit
set_option linter.unusedVariables false
set_option linter.unusedSimpArgs false
namespace Go.Proofs.Ytieoemobdbmhhaa.Q
open Go.RowKit Go.Proofs.Ytieoemobdbmhhaa.F Go.Proofs.YtieoemobdbmhhaaW.PrintWords Go.Proofs.YtieoemobdbmhhaaW.PrintLast Go.Proofs.YtieoemobdbmhhaaW.PrintMore
/-- how many numbers of l are greater than the one before them, the first one's predecessor being p -/
def descents : Int → List Int → Nat
  | _, [] => 0
  | p, x :: l => (if p > x then 1 else 0) + descents x l
def descentCount (l : List Int) : Int := if isWord l then (match l with | [] => 0 | x :: l => (descents x l : Int)) else -1
theorem spec_DescentCount_l0 (l : List Int) (hl : l.length ≤ 1048576) : ∀ (d i m : Nat), i + 1 + d = l.length → m ≤ i → Ev (fun k => spec_DescentCount.l0 k l (m : Int) ((i + 1 : Nat) : Int)) ((m + descents (rd l (i : Int)) (l.drop (i + 1)) : Nat) : Int) := by
  intro d
  induction d with
  | zero =>
    intro i m h hm
    refine Ev.step (fun k => by rw [spec_DescentCount.l0]) ?_
    refine ev_neg (by omega) (ev_val ?_)
    rw [List.drop_of_length_le (by omega)]; rfl
  | succ d ih =>
    intro i m h hm
    have e : wrap64 (((i + 1 : Nat) : Int) - 1) = (i : Int) := by unfold wrap64; omega
    refine Ev.step (fun k => by rw [spec_DescentCount.l0]) ?_
    rw [e]
    refine ev_pos (by omega) (ev_pos (by omega) (ev_pos (by omega) (ev_pos (by omega) (ev_bindc (l1Bit_dec _) ?_))))
    rw [wrap_succ (by omega), drop_rd l (i + 1) (by omega), descents]
    by_cases hd : rd l (i : Int) > rd l ((i + 1 : Nat) : Int)
    · rw [if_pos hd, if_pos hd, wrap_succ (by omega)]
      refine ev_eq (ih (i + 1) (m + 1) (by omega) (by omega)) (by congr 1; omega)
    · rw [if_neg hd, if_neg hd, Int.add_zero, wrap_nat (by omega)]
      refine ev_eq (ih (i + 1) m (by omega) (by omega)) (by congr 1; omega)
theorem spec_DescentCount_ev (l : List Int) (hl : l.length ≤ 1048576) : Ev (fun k => spec_DescentCount.f k l) (descentCount l) := by
  unfold spec_DescentCount.f descentCount
  refine Ev.bind (spec_IsWord_ev l hl) (ev_ite (fun hw => ?_) (fun hw => ev_val (by simp [hw])))
  rw [if_pos hw]
  cases l with
  | nil => exact Ev.step (fun k => by rw [spec_DescentCount.l0]) (ev_neg (by simp) (ev_val rfl))
  | cons x l =>
    have := spec_DescentCount_l0 (x :: l) hl l.length 0 0 (by simp; omega) (by omega)
    simpa [rd] using this
theorem impl_DescentCount_l0 (l : List Int) (hl : l.length ≤ 1048576) : ∀ (d i m : Nat), i + 1 + d = l.length → m ≤ i → Ev (fun k => impl_DescentCount.l0 k l (m : Int) ((i + 1 : Nat) : Int)) ((m + descents (rd l (i : Int)) (l.drop (i + 1)) : Nat) : Int) := by
  intro d
  induction d with
  | zero =>
    intro i m h hm
    refine Ev.step (fun k => by rw [impl_DescentCount.l0]) ?_
    refine ev_neg (by omega) (ev_val ?_)
    rw [List.drop_of_length_le (by omega)]; rfl
  | succ d ih =>
    intro i m h hm
    have e : wrap64 (((i + 1 : Nat) : Int) - 1) = (i : Int) := by unfold wrap64; omega
    refine Ev.step (fun k => by rw [impl_DescentCount.l0]) ?_
    rw [e]
    refine ev_pos (by omega) (ev_pos (by omega) (ev_pos (by omega) (ev_pos (by omega) ?_)))
    rw [wrap_succ (by omega), drop_rd l (i + 1) (by omega), descents, wrap_succ (by omega)]
    refine ev_ite (fun hd => ?_) (fun hd => ?_)
    · rw [if_pos hd]
      exact ev_eq (ih (i + 1) (m + 1) (by omega) (by omega)) (by congr 1; omega)
    · rw [if_neg hd]
      exact ev_eq (ih (i + 1) m (by omega) (by omega)) (by congr 1; omega)
theorem impl_DescentCount_ev (l : List Int) (hl : l.length ≤ 1048576) : Ev (fun k => impl_DescentCount.f k l) (descentCount l) := by
  unfold impl_DescentCount.f descentCount
  refine ev_bindc (impl_IsWord_eq l) (ev_ite (fun hw => ?_) (fun hw => ev_val (by simp [hw])))
  rw [if_pos hw]
  cases l with
  | nil => exact Ev.step (fun k => by rw [impl_DescentCount.l0]) (ev_neg (by simp) (ev_val rfl))
  | cons x l =>
    have := impl_DescentCount_l0 (x :: l) hl l.length 0 0 (by simp; omega) (by omega)
    simpa [rd] using this
end Go.Proofs.Ytieoemobdbmhhaa.Q
