/- AreEquivalent, of the program and of the reference: the rows are the same; condition: at most 2^20 numbers. -/
import Derived.Test.YtfijlemaiiobaaaF0
import Derived.Test.YtfijlemaiiobaaaF5
import Derived.Test.YtfijlemaiiobaaaF7
import Derived.Test.YtfijlemaiiobaaaQBase
import Derived.Test.YtfijlemaiiobaaaQRows
import Derived.Test.YtfijlemaiiobaaaQSame
import Derived.Test.YtfijlemaiiobaaaQIsWord
import Derived.Test.YtfijlemaiiobaaaQInsertWord
set_option linter.unusedVariables false
set_option linter.unusedSimpArgs false
namespace Go.Proofs.Ytfijlemaiiobaaa.Q
open Go.RowKit Go.Proofs.Ytfijlemaiiobaaa.F Go.Proofs.YtfijlemaiiobaaaW.PrintWords Go.Proofs.YtfijlemaiiobaaaW.PrintLast Go.Proofs.YtfijlemaiiobaaaW.PrintMore
def areEq (v w : List Int) : Bool := isWord v && isWord w && decide (insAll v = insAll w)
theorem impl_AreEquivalent_ev (v w : List Int) : Ev (fun k => impl_AreEquivalent.f k v w) (areEq v w) := by
  unfold impl_AreEquivalent.f
  refine Ev.bind (impl_InsertWord_ev v) (Ev.bind (impl_InsertWord_ev w) ?_)
  by_cases hv : isWord v = true
  · rw [if_pos hv]
    refine ev_pos rfl ?_
    by_cases hw : isWord w = true
    · rw [if_pos hw]
      refine ev_pos rfl (ev_bindc rfl (ev_val ?_))
      simp [areEq, hv, hw]
    · rw [if_neg hw]
      refine ev_neg (by simp) (ev_val ?_)
      simp [areEq, hw]
  · rw [if_neg hv]
    refine ev_neg (by simp) (ev_val ?_)
    simp [areEq, hv]
theorem spec_EqualTableau_ev (a b : List (List Int)) (ha : a.length ≤ 1048576) (hr : ∀ r ∈ a, r.length ≤ 1048576) : Ev (fun k => spec_EqualTableau.f k [] a [] b) (decide (a = b)) := by
  unfold spec_EqualTableau.f
  refine Ev.bind (spec_l2Same_ev [] [] (by simp)) (ev_pos (by simp) (Ev.step (fun k => by rw [spec_EqualTableau.j0]) ?_))
  by_cases hl : a.length = b.length
  · refine ev_neg (by simp [hl]) ?_
    have key := downTo (P := fun i => Ev (fun k => spec_EqualTableau.l0 k (i : Int) [] a [] b) (decide (a.drop i = b.drop i))) a.length ?_ ?_ 0 (by omega)
    · simpa using key
    · refine Ev.step (fun k => by rw [spec_EqualTableau.l0]) (ev_neg (by omega) (ev_val ?_))
      rw [List.drop_of_length_le (by omega), List.drop_of_length_le (by omega)]
      simp
    · intro i hi ih
      have da : a.drop i = a[i] :: a.drop (i + 1) := List.drop_eq_getElem_cons hi
      have db : b.drop i = b[i] :: b.drop (i + 1) := List.drop_eq_getElem_cons (by omega)
      have e1 : rd_L1 a (i : Int) = a[i] := by rw [rows_nat, List.getD_eq_getElem?_getD, List.getElem?_eq_getElem hi]; rfl
      have e2 : rd_L1 b (i : Int) = b[i] := by rw [rows_nat, List.getD_eq_getElem?_getD, List.getElem?_eq_getElem (by omega)]; rfl
      refine Ev.step (fun k => by rw [spec_EqualTableau.l0]) (ev_pos (by omega) (ev_pos (by omega) (ev_pos (by omega) ?_)))
      rw [e1, e2]
      refine Ev.bind (spec_l2Same_ev a[i] b[i] (hr _ (List.getElem_mem hi))) (ev_ite (fun he => ?_) (fun he => ev_val ?_))
      · have he : a[i] = b[i] := by simpa using he
        rw [wrap_succ (by omega)]
        refine ev_eq ih ?_
        rw [decide_eq_decide, da, db, he]
        exact ⟨fun e => by rw [e], fun e => (List.cons.inj e).2⟩
      · have he : ¬ a[i] = b[i] := by simpa using he
        have h9 : ¬ (a.drop i = b.drop i) := fun e => he (by rw [da, db] at e; exact (List.cons.inj e).1)
        simp [h9]
  · refine ev_pos (by simp; omega) (ev_val ?_)
    have : a ≠ b := fun e => hl (by rw [e])
    simp [this]
theorem spec_AreEquivalent_ev (v w : List Int) (hv2 : v.length ≤ 1048576) (hw2 : w.length ≤ 1048576) : Ev (fun k => spec_AreEquivalent.f k v w) (areEq v w) := by
  unfold spec_AreEquivalent.f
  refine Ev.bind (spec_InsertWord_ev v hv2) (Ev.bind (spec_InsertWord_ev w hw2) ?_)
  by_cases hv : isWord v = true
  · have h9 := (isWord_iff.1 hv).1
    have hs := insAll_small v
    rw [if_pos hv]
    refine ev_pos rfl ?_
    by_cases hw : isWord w = true
    · rw [if_pos hw]
      refine ev_pos rfl (Ev.bind (spec_EqualTableau_ev (insAll v) (insAll w) (by omega) (fun r hr => by have := bulk_mem hr; omega)) (ev_val ?_))
      simp [areEq, hv, hw]
    · rw [if_neg hw]
      refine ev_neg (by simp) (ev_val ?_)
      simp [areEq, hw]
  · rw [if_neg hv]
    refine ev_neg (by simp) (ev_val ?_)
    simp [areEq, hv]
end Go.Proofs.Ytfijlemaiiobaaa.Q
