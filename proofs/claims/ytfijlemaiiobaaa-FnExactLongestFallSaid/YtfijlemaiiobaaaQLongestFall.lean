/- LongestFall, of the program and of the reference; condition: at most 2^20 numbers. -/
import Derived.Test.YtfijlemaiiobaaaF0
import Derived.Test.YtfijlemaiiobaaaF6
import Derived.Test.YtfijlemaiiobaaaQBase
import Derived.Test.YtfijlemaiiobaaaQIsWord
import Derived.Test.YtfijlemaiiobaaaQInsertWord
import Derived.Test.YtfijlemaiiobaaaQGreene
import Derived.Test.YtfijlemaiiobaaaQLongest
import Derived.Test.YtfijlemaiiobaaaQLongestOne
import Derived.Test.YtfijlemaiiobaaaQFalls
set_option linter.unusedVariables false
set_option linter.unusedSimpArgs false
namespace Go.Proofs.Ytfijlemaiiobaaa.Q
open Go.RowKit Go.Proofs.Ytfijlemaiiobaaa.F Go.Proofs.YtfijlemaiiobaaaW.PrintWords Go.Proofs.YtfijlemaiiobaaaW.PrintLast Go.Proofs.YtfijlemaiiobaaaW.PrintMore
theorem impl_LongestFall_ev (l : List Int) : Ev (fun k => impl_LongestFall.f k l) (fallsT l 1) := by
  unfold impl_LongestFall.f
  exact Ev.bind (impl_FallsTogether_ev l 1) (ev_val rfl)
theorem spec_LongestFall_ev (l : List Int) (hl : l.length ≤ 1048576) : Ev (fun k => spec_LongestFall.f k l) (fallsT l 1) := by
  unfold spec_LongestFall.f
  refine Ev.bind (spec_IsWord_ev l hl) (ev_ite (fun h => ?_) (fun h => ev_val ?_))
  · obtain ⟨M, h1, h2⟩ := longest_ev false l hl
    refine Ev.bind h1 (ev_val ?_)
    rw [longest_fall h2, fallsT, if_pos ⟨h, by omega, by omega⟩]
    rfl
  · rw [fallsT, if_neg (fun h2 => h h2.1)]
end Go.Proofs.Ytfijlemaiiobaaa.Q
