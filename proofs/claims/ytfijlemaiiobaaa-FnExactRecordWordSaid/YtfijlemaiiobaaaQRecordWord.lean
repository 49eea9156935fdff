/- RecordWord, of the program and of the reference: both put the indices where the rows grow; condition: at most 2^20 numbers. -/
import Derived.Test.YtfijlemaiiobaaaF0
import Derived.Test.YtfijlemaiiobaaaF6
import Derived.Test.YtfijlemaiiobaaaQBase
import Derived.Test.YtfijlemaiiobaaaQIsIn
import Derived.Test.YtfijlemaiiobaaaQIsWord
import Derived.Test.YtfijlemaiiobaaaQUpTo
import Derived.Test.YtfijlemaiiobaaaQInsertWord
set_option linter.unusedVariables false
set_option linter.unusedSimpArgs false
namespace Go.Proofs.Ytfijlemaiiobaaa.Q
open Go.RowKit Go.Proofs.Ytfijlemaiiobaaa.F Go.Proofs.YtfijlemaiiobaaaW.PrintWords Go.Proofs.YtfijlemaiiobaaaW.PrintLast Go.Proofs.YtfijlemaiiobaaaW.PrintMore
/-- the indices of a word's numbers, at the places where the rows grow -/
def recAll (w : List Int) : List (List Int) := (bothAt w (fun j => ((j + 1 : Nat) : Int)) w.length).2
theorem impl_RecordWord_ev (l : List Int) : Ev (fun k => impl_RecordWord.f k l) (if isWord l then ([], recAll l, true) else ([], [], false)) := by
  unfold impl_RecordWord.f
  refine ev_bindc (impl_IsWord_eq l) (ev_ite (fun h => ?_) (fun h => ev_val (by rw [if_neg h])))
  have h9 := (isWord_iff.1 h).1
  rw [if_pos h]
  refine Ev.bind (upTo_ev l.length (by omega)) (ev_pos ⟨by omega, by simp⟩ (ev_val ?_))
  rw [both_congr l (fun j => rd (upList l.length) (j : Int)) (fun j => ((j + 1 : Nat) : Int)) l.length (fun k hk => upList_rd _ _ hk)]
  rfl
theorem spec_RecordWord_ev (l : List Int) (hl : l.length ≤ 1048576) : Ev (fun k => spec_RecordWord.f k l) (if isWord l then ([], recAll l, true) else ([], [], false)) := by
  unfold spec_RecordWord.f
  refine Ev.bind (spec_IsWord_ev l hl) (ev_ite (fun h => ?_) (fun h => ev_val (by rw [if_neg h])))
  have h9 := (isWord_iff.1 h).1
  rw [if_pos h]
  exact ev_pos (by omega) (ev_val rfl)
theorem bulk_bound (b : Nat) : ∀ (l : List (List Int)), (∀ r ∈ l, r.length ≤ b) → bulk l ≤ l.length * b
  | [], _ => by simp [bulk]
  | r :: l, h => by
    have h1 := h r (List.mem_cons_self ..)
    have h2 := bulk_bound b l (fun s hs => h s (List.mem_cons_of_mem _ hs))
    simp only [bulk, List.length_cons, Nat.succ_mul]; omega
theorem recAll_small (w : List Int) : (recAll w).length ≤ w.length ∧ bulk (recAll w) ≤ (recAll w).length * w.length := by
  obtain ⟨h1, h2, _, h4⟩ := both_inv w (fun j => ((j + 1 : Nat) : Int)) w.length
  exact ⟨by show (bothAt w _ w.length).2.length ≤ _; omega, bulk_bound _ _ h4⟩
end Go.Proofs.Ytfijlemaiiobaaa.Q
