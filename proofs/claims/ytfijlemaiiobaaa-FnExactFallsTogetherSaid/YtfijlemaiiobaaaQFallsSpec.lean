/- FallsTogether of the reference; condition: at most 2^20 numbers. -/
import Derived.Test.YtfijlemaiiobaaaF0
import Derived.Test.YtfijlemaiiobaaaF7
import Derived.Test.YtfijlemaiiobaaaQBase
import Derived.Test.YtfijlemaiiobaaaQIsIn
import Derived.Test.YtfijlemaiiobaaaQIsWord
import Derived.Test.YtfijlemaiiobaaaQPart
import Derived.Test.YtfijlemaiiobaaaQInsertWord
import Derived.Test.YtfijlemaiiobaaaQShapeOfWord
import Derived.Test.YtfijlemaiiobaaaQGreene
import Derived.Test.YtfijlemaiiobaaaQLongest
import Derived.Test.YtfijlemaiiobaaaQTogether
import Derived.Test.YtfijlemaiiobaaaQLens
import Derived.Test.YtfijlemaiiobaaaQConj
import Derived.Test.YtfijlemaiiobaaaQFalls
set_option linter.unusedVariables false
set_option linter.unusedSimpArgs false
namespace Go.Proofs.Ytfijlemaiiobaaa.Q
open Go.RowKit Go.Proofs.Ytfijlemaiiobaaa.F Go.Proofs.YtfijlemaiiobaaaW.PrintWords Go.Proofs.YtfijlemaiiobaaaW.PrintLast Go.Proofs.YtfijlemaiiobaaaW.PrintMore
theorem spec_FallsTogether_ev (l : List Int) (a : Int) (hl : l.length ≤ 1048576) : Ev (fun k => spec_FallsTogether.f k l a) (fallsT l a) := by
  unfold spec_FallsTogether.f
  refine Ev.bind (spec_IsWord_ev l hl) (ev_ite (fun h => ?_) (fun h => ev_val ?_))
  · refine ev_bindc (spec_l1In_eq a 0 9) (ev_ite (fun ha => ?_) (fun ha => ev_val ?_))
    · have ha : 0 ≤ a ∧ a ≤ 9 := by simpa using ha
      have h9 := (isWord_iff.1 h).1
      obtain ⟨K, rfl⟩ : ∃ K : Nat, a = (K : Int) := ⟨a.toNat, by omega⟩
      rw [fallsT, if_pos ⟨h, ha⟩, Int.toNat_natCast]
      obtain ⟨M, h1, h2, h3⟩ := together_ev false l h9 K
      rw [show (!false) = true from rfl, link_true] at h2 h3
      obtain ⟨g1, g2⟩ := greene_fall l K
      have e : M = firstCols K (insAll l) := Nat.le_antisymm (g2 M h2) (h3 _ g1)
      rw [← e]
      exact Ev.bind h1 (ev_val rfl)
    · have ha : ¬ (0 ≤ a ∧ a ≤ 9) := by simpa using ha
      rw [fallsT, if_neg (fun h => ha h.2)]
  · rw [fallsT, if_neg (fun h2 => h h2.1)]
end Go.Proofs.Ytfijlemaiiobaaa.Q
