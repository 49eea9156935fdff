/- EvacuateWord, of the program and of the reference, are one function; condition: at most 2^20 elements. -/
import Derived.Test.YtekjnjejgefbhaaF0
import Derived.Test.YtekjnjejgefbhaaF6
import Derived.Test.YtekjnjejgefbhaaF7
import Derived.Test.YtekjnjejgefbhaaQBase
import Derived.Test.YtekjnjejgefbhaaQOnce
import Derived.Test.YtekjnjejgefbhaaQIsWord
import Derived.Test.YtekjnjejgefbhaaQComplement
import Derived.Test.YtekjnjejgefbhaaQReverse
set_option linter.unusedVariables false
set_option linter.unusedSimpArgs false
namespace Go.Proofs.Ytekjnjejgefbhaa.Q
open Go.RowKit Go.Proofs.Ytekjnjejgefbhaa.F Go.Proofs.YtekjnjejgefbhaaW.PrintWords Go.Proofs.YtekjnjejgefbhaaW.PrintLast Go.Proofs.YtekjnjejgefbhaaW.PrintMore
def evacuateWord (l : List Int) (n : Int) : List Int × Bool := if (complement l n).2 then (reverseWord (complement l n).1, true) else ([], false)
theorem evacuateWord_le (l : List Int) (n : Int) : (evacuateWord l n).1.length ≤ 9 := by
  unfold evacuateWord
  split
  · exact reverseWord_le _
  · simp
theorem spec_EvacuateWord_ev (l : List Int) (n : Int) (hl : l.length ≤ 1048576) : Ev (fun k => spec_EvacuateWord.f k l n) (evacuateWord l n) := by
  have h9 := complement_le l n
  unfold spec_EvacuateWord.f evacuateWord
  refine Ev.bind (spec_ComplementWord_ev l n hl) (ev_ite (fun h => ?_) (fun h => ?_))
  · rw [if_pos h]
    exact Ev.bind (spec_ReverseWord_ev _ (by omega)) (ev_val rfl)
  · rw [if_neg h]
    exact ev_val rfl
theorem impl_EvacuateWord_ev (l : List Int) (n : Int) (hl : l.length ≤ 1048576) : Ev (fun k => impl_EvacuateWord.f k l n) (evacuateWord l n) := by
  have h9 := complement_le l n
  unfold impl_EvacuateWord.f evacuateWord
  refine ev_bindc (impl_ComplementWord_eq l n) (ev_ite (fun h => ?_) (fun h => ?_))
  · rw [if_pos h]
    exact Ev.bind (impl_ReverseWord_ev _ (by omega)) (ev_val rfl)
  · rw [if_neg h]
    exact ev_val rfl
end Go.Proofs.Ytekjnjejgefbhaa.Q
