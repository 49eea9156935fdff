/-
  No cell of these rows narrows 'for every input' (looked for: loops, veiled, ifaces, maps, wideKeys, modest, calm, conditions, laid).
  DERIVED. THE GIVEN ROWS OF THIS SEAT. 10 by the template 'for every input the law returns true; each argument reads behind the call as it read before'; 0 by the template 'total and deterministic' (their statements: YtfijlemaiiobaaaTotals.lean).
  GIVEN WITH THE SEED: the statements are not yours to turn. If you find one false, say at which input.
  Laid BY PROGRAM, IN A SANDBOX (cutbox-rows.mjs): the forced cells as the released guide's own fill.sh prints them over the translation 3f506bd2f45330a9… (all of the seat's roots in one cut). By AI agents, Wed Nov 11 2026. No macro, syntax, notation, axiom, sorry.
-/
import Derived.Test.YtfijlemaiiobaaaChecked
import GoSem.Claim
import GoSem.ClaimJoined
import GoSem.ClaimMapViews
import Derived.JoinedTies
import Derived.KernelRfl
namespace Go.Proofs.Ytfijlemaiiobaaa
/- THE CELL 'sum', in the pinned program and in every row, IS THE sha256 OF THE DUMP (.gsa) THAT YtfijlemaiiobaaaProg.lean LOADS. Nothing in Lean hashes anything: it is a label: what it is worth is what the hold of that sum in a sandbox is worth. -/
noncomputable def Try.pinned : Pinned := { name := "ytfijlemaiiobaaa", sum := "3f506bd2f45330a93cab7e95a853c6201934499a5d38655a11798d72e2a09cd0", checked := Try.checked }
namespace Rows
def none {H : Type} : Left H := { results := [], args := [] }

/-- 'laws.FnGreene': WHATEVER THE INPUT: true; the input reads as it did. -/
def fnGreeneSpec : ChangeSpec := { name := "fnGreene", fn := fun _ => fun
  | [d] => { results := [.lit (.bool true)], args := [d] }
  | _ => none }
def fnGreeneRow : OpenClaim := { program := "ytfijlemaiiobaaa", sum := "3f506bd2f45330a93cab7e95a853c6201934499a5d38655a11798d72e2a09cd0", func := "loop.example/g00598/laws.FnGreene", spec := "fnGreene", unfollowed := true, recurses := true, apart := false }
def FnGreeneSaid : Prop := fnGreeneRow.holds Try.pinned (OpenSpec.ofChange fnGreeneSpec)

/-- ITS FALSE NEIGHBOUR: 'it returns false'. Refute it at one input. -/
def fnGreeneWrong : ChangeSpec := { name := "fnGreene", fn := fun _ => fun
  | [d] => { results := [.lit (.bool false)], args := [d] }
  | _ => none }
def FnGreeneWrongFalsely : Prop := fnGreeneRow.holds Try.pinned (OpenSpec.ofChange fnGreeneWrong)

/-- 'laws.FnExactAreEquivalent': WHATEVER THE INPUT: true; the input reads as it did. -/
def fnExactAreEquivalentSpec : ChangeSpec := { name := "fnExactAreEquivalent", fn := fun _ => fun
  | [d1, d2] => { results := [.lit (.bool true)], args := [d1, d2] }
  | _ => none }
def fnExactAreEquivalentRow : OpenClaim := { program := "ytfijlemaiiobaaa", sum := "3f506bd2f45330a93cab7e95a853c6201934499a5d38655a11798d72e2a09cd0", func := "loop.example/g00598/laws.FnExactAreEquivalent", spec := "fnExactAreEquivalent", unfollowed := true, recurses := true, apart := false }
def FnExactAreEquivalentSaid : Prop := fnExactAreEquivalentRow.holds Try.pinned (OpenSpec.ofChange fnExactAreEquivalentSpec)

/-- ITS FALSE NEIGHBOUR: 'it returns false'. Refute it at one input. -/
def fnExactAreEquivalentWrong : ChangeSpec := { name := "fnExactAreEquivalent", fn := fun _ => fun
  | [d1, d2] => { results := [.lit (.bool false)], args := [d1, d2] }
  | _ => none }
def FnExactAreEquivalentWrongFalsely : Prop := fnExactAreEquivalentRow.holds Try.pinned (OpenSpec.ofChange fnExactAreEquivalentWrong)

/-- 'laws.FnExactLongestRise': WHATEVER THE INPUT: true; the input reads as it did. -/
def fnExactLongestRiseSpec : ChangeSpec := { name := "fnExactLongestRise", fn := fun _ => fun
  | [d] => { results := [.lit (.bool true)], args := [d] }
  | _ => none }
def fnExactLongestRiseRow : OpenClaim := { program := "ytfijlemaiiobaaa", sum := "3f506bd2f45330a93cab7e95a853c6201934499a5d38655a11798d72e2a09cd0", func := "loop.example/g00598/laws.FnExactLongestRise", spec := "fnExactLongestRise", unfollowed := true, recurses := true, apart := false }
def FnExactLongestRiseSaid : Prop := fnExactLongestRiseRow.holds Try.pinned (OpenSpec.ofChange fnExactLongestRiseSpec)

/-- ITS FALSE NEIGHBOUR: 'it returns false'. Refute it at one input. -/
def fnExactLongestRiseWrong : ChangeSpec := { name := "fnExactLongestRise", fn := fun _ => fun
  | [d] => { results := [.lit (.bool false)], args := [d] }
  | _ => none }
def FnExactLongestRiseWrongFalsely : Prop := fnExactLongestRiseRow.holds Try.pinned (OpenSpec.ofChange fnExactLongestRiseWrong)

/-- 'laws.FnExactInsertWord': WHATEVER THE INPUT: true; the input reads as it did. -/
def fnExactInsertWordSpec : ChangeSpec := { name := "fnExactInsertWord", fn := fun _ => fun
  | [d] => { results := [.lit (.bool true)], args := [d] }
  | _ => none }
def fnExactInsertWordRow : OpenClaim := { program := "ytfijlemaiiobaaa", sum := "3f506bd2f45330a93cab7e95a853c6201934499a5d38655a11798d72e2a09cd0", func := "loop.example/g00598/laws.FnExactInsertWord", spec := "fnExactInsertWord", unfollowed := true, recurses := true, apart := false }
def FnExactInsertWordSaid : Prop := fnExactInsertWordRow.holds Try.pinned (OpenSpec.ofChange fnExactInsertWordSpec)

/-- ITS FALSE NEIGHBOUR: 'it returns false'. Refute it at one input. -/
def fnExactInsertWordWrong : ChangeSpec := { name := "fnExactInsertWord", fn := fun _ => fun
  | [d] => { results := [.lit (.bool false)], args := [d] }
  | _ => none }
def FnExactInsertWordWrongFalsely : Prop := fnExactInsertWordRow.holds Try.pinned (OpenSpec.ofChange fnExactInsertWordWrong)

/-- 'laws.FnExactRecordWord': WHATEVER THE INPUT: true; the input reads as it did. -/
def fnExactRecordWordSpec : ChangeSpec := { name := "fnExactRecordWord", fn := fun _ => fun
  | [d] => { results := [.lit (.bool true)], args := [d] }
  | _ => none }
def fnExactRecordWordRow : OpenClaim := { program := "ytfijlemaiiobaaa", sum := "3f506bd2f45330a93cab7e95a853c6201934499a5d38655a11798d72e2a09cd0", func := "loop.example/g00598/laws.FnExactRecordWord", spec := "fnExactRecordWord", unfollowed := true, recurses := true, apart := false }
def FnExactRecordWordSaid : Prop := fnExactRecordWordRow.holds Try.pinned (OpenSpec.ofChange fnExactRecordWordSpec)

/-- ITS FALSE NEIGHBOUR: 'it returns false'. Refute it at one input. -/
def fnExactRecordWordWrong : ChangeSpec := { name := "fnExactRecordWord", fn := fun _ => fun
  | [d] => { results := [.lit (.bool false)], args := [d] }
  | _ => none }
def FnExactRecordWordWrongFalsely : Prop := fnExactRecordWordRow.holds Try.pinned (OpenSpec.ofChange fnExactRecordWordWrong)

/-- 'laws.FnExactRisesTogether': WHATEVER THE INPUT: true; the input reads as it did. -/
def fnExactRisesTogetherSpec : ChangeSpec := { name := "fnExactRisesTogether", fn := fun _ => fun
  | [d1, d2] => { results := [.lit (.bool true)], args := [d1, d2] }
  | _ => none }
def fnExactRisesTogetherRow : OpenClaim := { program := "ytfijlemaiiobaaa", sum := "3f506bd2f45330a93cab7e95a853c6201934499a5d38655a11798d72e2a09cd0", func := "loop.example/g00598/laws.FnExactRisesTogether", spec := "fnExactRisesTogether", unfollowed := true, recurses := true, apart := false }
def FnExactRisesTogetherSaid : Prop := fnExactRisesTogetherRow.holds Try.pinned (OpenSpec.ofChange fnExactRisesTogetherSpec)

/-- ITS FALSE NEIGHBOUR: 'it returns false'. Refute it at one input. -/
def fnExactRisesTogetherWrong : ChangeSpec := { name := "fnExactRisesTogether", fn := fun _ => fun
  | [d1, d2] => { results := [.lit (.bool false)], args := [d1, d2] }
  | _ => none }
def FnExactRisesTogetherWrongFalsely : Prop := fnExactRisesTogetherRow.holds Try.pinned (OpenSpec.ofChange fnExactRisesTogetherWrong)

/-- 'laws.FnExactColumnTableau': WHATEVER THE INPUT: true; the input reads as it did. -/
def fnExactColumnTableauSpec : ChangeSpec := { name := "fnExactColumnTableau", fn := fun _ => fun
  | [d] => { results := [.lit (.bool true)], args := [d] }
  | _ => none }
def fnExactColumnTableauRow : OpenClaim := { program := "ytfijlemaiiobaaa", sum := "3f506bd2f45330a93cab7e95a853c6201934499a5d38655a11798d72e2a09cd0", func := "loop.example/g00598/laws.FnExactColumnTableau", spec := "fnExactColumnTableau", unfollowed := true, recurses := true, apart := false }
def FnExactColumnTableauSaid : Prop := fnExactColumnTableauRow.holds Try.pinned (OpenSpec.ofChange fnExactColumnTableauSpec)

/-- ITS FALSE NEIGHBOUR: 'it returns false'. Refute it at one input. -/
def fnExactColumnTableauWrong : ChangeSpec := { name := "fnExactColumnTableau", fn := fun _ => fun
  | [d] => { results := [.lit (.bool false)], args := [d] }
  | _ => none }
def FnExactColumnTableauWrongFalsely : Prop := fnExactColumnTableauRow.holds Try.pinned (OpenSpec.ofChange fnExactColumnTableauWrong)

/-- 'laws.FnExactLongestFall': WHATEVER THE INPUT: true; the input reads as it did. -/
def fnExactLongestFallSpec : ChangeSpec := { name := "fnExactLongestFall", fn := fun _ => fun
  | [d] => { results := [.lit (.bool true)], args := [d] }
  | _ => none }
def fnExactLongestFallRow : OpenClaim := { program := "ytfijlemaiiobaaa", sum := "3f506bd2f45330a93cab7e95a853c6201934499a5d38655a11798d72e2a09cd0", func := "loop.example/g00598/laws.FnExactLongestFall", spec := "fnExactLongestFall", unfollowed := true, recurses := true, apart := false }
def FnExactLongestFallSaid : Prop := fnExactLongestFallRow.holds Try.pinned (OpenSpec.ofChange fnExactLongestFallSpec)

/-- ITS FALSE NEIGHBOUR: 'it returns false'. Refute it at one input. -/
def fnExactLongestFallWrong : ChangeSpec := { name := "fnExactLongestFall", fn := fun _ => fun
  | [d] => { results := [.lit (.bool false)], args := [d] }
  | _ => none }
def FnExactLongestFallWrongFalsely : Prop := fnExactLongestFallRow.holds Try.pinned (OpenSpec.ofChange fnExactLongestFallWrong)

/-- 'laws.FnExactFallsTogether': WHATEVER THE INPUT: true; the input reads as it did. -/
def fnExactFallsTogetherSpec : ChangeSpec := { name := "fnExactFallsTogether", fn := fun _ => fun
  | [d1, d2] => { results := [.lit (.bool true)], args := [d1, d2] }
  | _ => none }
def fnExactFallsTogetherRow : OpenClaim := { program := "ytfijlemaiiobaaa", sum := "3f506bd2f45330a93cab7e95a853c6201934499a5d38655a11798d72e2a09cd0", func := "loop.example/g00598/laws.FnExactFallsTogether", spec := "fnExactFallsTogether", unfollowed := true, recurses := true, apart := false }
def FnExactFallsTogetherSaid : Prop := fnExactFallsTogetherRow.holds Try.pinned (OpenSpec.ofChange fnExactFallsTogetherSpec)

/-- ITS FALSE NEIGHBOUR: 'it returns false'. Refute it at one input. -/
def fnExactFallsTogetherWrong : ChangeSpec := { name := "fnExactFallsTogether", fn := fun _ => fun
  | [d1, d2] => { results := [.lit (.bool false)], args := [d1, d2] }
  | _ => none }
def FnExactFallsTogetherWrongFalsely : Prop := fnExactFallsTogetherRow.holds Try.pinned (OpenSpec.ofChange fnExactFallsTogetherWrong)

/-- 'laws.FnExactShapeOfWord': WHATEVER THE INPUT: true; the input reads as it did. -/
def fnExactShapeOfWordSpec : ChangeSpec := { name := "fnExactShapeOfWord", fn := fun _ => fun
  | [d] => { results := [.lit (.bool true)], args := [d] }
  | _ => none }
def fnExactShapeOfWordRow : OpenClaim := { program := "ytfijlemaiiobaaa", sum := "3f506bd2f45330a93cab7e95a853c6201934499a5d38655a11798d72e2a09cd0", func := "loop.example/g00598/laws.FnExactShapeOfWord", spec := "fnExactShapeOfWord", unfollowed := true, recurses := true, apart := false }
def FnExactShapeOfWordSaid : Prop := fnExactShapeOfWordRow.holds Try.pinned (OpenSpec.ofChange fnExactShapeOfWordSpec)

/-- ITS FALSE NEIGHBOUR: 'it returns false'. Refute it at one input. -/
def fnExactShapeOfWordWrong : ChangeSpec := { name := "fnExactShapeOfWord", fn := fun _ => fun
  | [d] => { results := [.lit (.bool false)], args := [d] }
  | _ => none }
def FnExactShapeOfWordWrongFalsely : Prop := fnExactShapeOfWordRow.holds Try.pinned (OpenSpec.ofChange fnExactShapeOfWordWrong)

/- THE SECOND FORM. 'bulk': how many values and letters a reading holds, each counted each time it is reached (what is shared counts as often as it is met; a slice's spare places count too). A statement '..UptoSaid' is the law's where the arguments, and the package variables that the reading takes, are together of bulk at most 1048576: NARROWER than '..Said'. Prove '..Said' where nothing that the law and all that it calls make is longer than what came in: it says more and counts as full. Else prove '..UptoSaid'. A law counts once. -/
mutual
def uptoBulk {H : Type} : DataW H → Nat
  | .lit (.string bytes) => bytes.length + 1
  | .lit _ => 1
  | .nil => 1
  | .ptr d => uptoBulk d + 1
  | .slice elems spare => uptoBulkAll elems + uptoBulkAll spare + 1
  | .agg parts => uptoBulkAll parts + 1
  | .iface _ d => uptoBulk d + 1
  | .map entries => uptoBulkEntries entries + 1
  | .held _ => 1
def uptoBulkAll {H : Type} : List (DataW H) → Nat
  | [] => 0
  | d :: r => uptoBulk d + uptoBulkAll r
def uptoBulkEntries {H : Type} : List (Lit × DataW H) → Nat
  | [] => 0
  | x :: r => uptoBulkEntry x + uptoBulkEntries r
def uptoBulkEntry {H : Type} : Lit × DataW H → Nat
  | (.string bytes, d) => bytes.length + uptoBulk d + 1
  | (_, d) => uptoBulk d + 1
 end
def uptoSmall : (H : Type) → List (DataW H) → Bool := fun _ ds => decide (uptoBulkAll ds ≤ 1048576)
def OpenSpec.upto (s : _root_.Go.ChangeSpec) : _root_.Go.OpenSpec := { _root_.Go.OpenSpec.ofChange s with cond := some uptoSmall }

/-- 'laws.FnGreene', WHERE WHAT IT READS IS OF BULK AT MOST 1048576: true; the input reads as it did. -/
def fnGreeneUptoRow : OpenClaim := { program := "ytfijlemaiiobaaa", sum := "3f506bd2f45330a93cab7e95a853c6201934499a5d38655a11798d72e2a09cd0", func := "loop.example/g00598/laws.FnGreene", spec := "fnGreene", unfollowed := true, recurses := true, apart := false, narrowed := true }
def FnGreeneUptoSaid : Prop := fnGreeneUptoRow.holds Try.pinned (OpenSpec.upto fnGreeneSpec)

/-- 'laws.FnExactAreEquivalent', WHERE WHAT IT READS IS OF BULK AT MOST 1048576: true; the input reads as it did. -/
def fnExactAreEquivalentUptoRow : OpenClaim := { program := "ytfijlemaiiobaaa", sum := "3f506bd2f45330a93cab7e95a853c6201934499a5d38655a11798d72e2a09cd0", func := "loop.example/g00598/laws.FnExactAreEquivalent", spec := "fnExactAreEquivalent", unfollowed := true, recurses := true, apart := false, narrowed := true }
def FnExactAreEquivalentUptoSaid : Prop := fnExactAreEquivalentUptoRow.holds Try.pinned (OpenSpec.upto fnExactAreEquivalentSpec)

/-- 'laws.FnExactLongestRise', WHERE WHAT IT READS IS OF BULK AT MOST 1048576: true; the input reads as it did. -/
def fnExactLongestRiseUptoRow : OpenClaim := { program := "ytfijlemaiiobaaa", sum := "3f506bd2f45330a93cab7e95a853c6201934499a5d38655a11798d72e2a09cd0", func := "loop.example/g00598/laws.FnExactLongestRise", spec := "fnExactLongestRise", unfollowed := true, recurses := true, apart := false, narrowed := true }
def FnExactLongestRiseUptoSaid : Prop := fnExactLongestRiseUptoRow.holds Try.pinned (OpenSpec.upto fnExactLongestRiseSpec)

/-- 'laws.FnExactInsertWord', WHERE WHAT IT READS IS OF BULK AT MOST 1048576: true; the input reads as it did. -/
def fnExactInsertWordUptoRow : OpenClaim := { program := "ytfijlemaiiobaaa", sum := "3f506bd2f45330a93cab7e95a853c6201934499a5d38655a11798d72e2a09cd0", func := "loop.example/g00598/laws.FnExactInsertWord", spec := "fnExactInsertWord", unfollowed := true, recurses := true, apart := false, narrowed := true }
def FnExactInsertWordUptoSaid : Prop := fnExactInsertWordUptoRow.holds Try.pinned (OpenSpec.upto fnExactInsertWordSpec)

/-- 'laws.FnExactRecordWord', WHERE WHAT IT READS IS OF BULK AT MOST 1048576: true; the input reads as it did. -/
def fnExactRecordWordUptoRow : OpenClaim := { program := "ytfijlemaiiobaaa", sum := "3f506bd2f45330a93cab7e95a853c6201934499a5d38655a11798d72e2a09cd0", func := "loop.example/g00598/laws.FnExactRecordWord", spec := "fnExactRecordWord", unfollowed := true, recurses := true, apart := false, narrowed := true }
def FnExactRecordWordUptoSaid : Prop := fnExactRecordWordUptoRow.holds Try.pinned (OpenSpec.upto fnExactRecordWordSpec)

/-- 'laws.FnExactRisesTogether', WHERE WHAT IT READS IS OF BULK AT MOST 1048576: true; the input reads as it did. -/
def fnExactRisesTogetherUptoRow : OpenClaim := { program := "ytfijlemaiiobaaa", sum := "3f506bd2f45330a93cab7e95a853c6201934499a5d38655a11798d72e2a09cd0", func := "loop.example/g00598/laws.FnExactRisesTogether", spec := "fnExactRisesTogether", unfollowed := true, recurses := true, apart := false, narrowed := true }
def FnExactRisesTogetherUptoSaid : Prop := fnExactRisesTogetherUptoRow.holds Try.pinned (OpenSpec.upto fnExactRisesTogetherSpec)

/-- 'laws.FnExactColumnTableau', WHERE WHAT IT READS IS OF BULK AT MOST 1048576: true; the input reads as it did. -/
def fnExactColumnTableauUptoRow : OpenClaim := { program := "ytfijlemaiiobaaa", sum := "3f506bd2f45330a93cab7e95a853c6201934499a5d38655a11798d72e2a09cd0", func := "loop.example/g00598/laws.FnExactColumnTableau", spec := "fnExactColumnTableau", unfollowed := true, recurses := true, apart := false, narrowed := true }
def FnExactColumnTableauUptoSaid : Prop := fnExactColumnTableauUptoRow.holds Try.pinned (OpenSpec.upto fnExactColumnTableauSpec)

/-- 'laws.FnExactLongestFall', WHERE WHAT IT READS IS OF BULK AT MOST 1048576: true; the input reads as it did. -/
def fnExactLongestFallUptoRow : OpenClaim := { program := "ytfijlemaiiobaaa", sum := "3f506bd2f45330a93cab7e95a853c6201934499a5d38655a11798d72e2a09cd0", func := "loop.example/g00598/laws.FnExactLongestFall", spec := "fnExactLongestFall", unfollowed := true, recurses := true, apart := false, narrowed := true }
def FnExactLongestFallUptoSaid : Prop := fnExactLongestFallUptoRow.holds Try.pinned (OpenSpec.upto fnExactLongestFallSpec)

/-- 'laws.FnExactFallsTogether', WHERE WHAT IT READS IS OF BULK AT MOST 1048576: true; the input reads as it did. -/
def fnExactFallsTogetherUptoRow : OpenClaim := { program := "ytfijlemaiiobaaa", sum := "3f506bd2f45330a93cab7e95a853c6201934499a5d38655a11798d72e2a09cd0", func := "loop.example/g00598/laws.FnExactFallsTogether", spec := "fnExactFallsTogether", unfollowed := true, recurses := true, apart := false, narrowed := true }
def FnExactFallsTogetherUptoSaid : Prop := fnExactFallsTogetherUptoRow.holds Try.pinned (OpenSpec.upto fnExactFallsTogetherSpec)

/-- 'laws.FnExactShapeOfWord', WHERE WHAT IT READS IS OF BULK AT MOST 1048576: true; the input reads as it did. -/
def fnExactShapeOfWordUptoRow : OpenClaim := { program := "ytfijlemaiiobaaa", sum := "3f506bd2f45330a93cab7e95a853c6201934499a5d38655a11798d72e2a09cd0", func := "loop.example/g00598/laws.FnExactShapeOfWord", spec := "fnExactShapeOfWord", unfollowed := true, recurses := true, apart := false, narrowed := true }
def FnExactShapeOfWordUptoSaid : Prop := fnExactShapeOfWordUptoRow.holds Try.pinned (OpenSpec.upto fnExactShapeOfWordSpec)

end Rows
end Go.Proofs.Ytfijlemaiiobaaa
