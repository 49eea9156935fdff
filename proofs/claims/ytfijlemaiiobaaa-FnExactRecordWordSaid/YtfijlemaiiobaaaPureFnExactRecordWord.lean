/- The law on RecordWord comes to this: both sides compute the same rows; no condition beyond the statement's own. -/
import Derived.Test.YtfijlemaiiobaaaF0
import Derived.Test.YtfijlemaiiobaaaF6
import Derived.Test.YtfijlemaiiobaaaQBase
import Derived.Test.YtfijlemaiiobaaaQRecordWord
import Derived.Test.YtfijlemaiiobaaaWalkFnExactRecordWord
set_option linter.unusedVariables false
set_option linter.unusedSimpArgs false
namespace Go.Proofs.Ytfijlemaiiobaaa.Pure
open Go.RowKit Go.Proofs.Ytfijlemaiiobaaa.F Go.Proofs.YtfijlemaiiobaaaW.PrintWords Go.Proofs.YtfijlemaiiobaaaW.PrintLast Go.Proofs.YtfijlemaiiobaaaW.PrintMore Go.Proofs.Ytfijlemaiiobaaa.Q
theorem FnExactRecordWord : Walk.FnExactRecordWord.Pure := by
  intro l _ _ hs
  by_cases h : isWord l = true
  · have h9 := (isWord_iff.1 h).1
    obtain ⟨s1, s2⟩ := recAll_small l
    have s3 : (recAll l).length * l.length ≤ 9 * 9 := Nat.mul_le_mul (by omega) h9
    exact ⟨[], recAll l, true, ev_eq (spec_RecordWord_ev l hs) (if_pos h), ev_eq (impl_RecordWord_ev l) (if_pos h), by simp, by omega, by omega⟩
  · exact ⟨[], [], false, ev_eq (spec_RecordWord_ev l hs) (if_neg h), ev_eq (impl_RecordWord_ev l) (if_neg h), by simp, by simp, by simp [bulk]⟩
end Go.Proofs.Ytfijlemaiiobaaa.Pure
