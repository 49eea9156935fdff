/-
  No cell of these rows narrows 'for every input' (looked for: loops, veiled, ifaces, maps, wideKeys, modest, calm, conditions, laid).
  DERIVED. THE GIVEN ROWS OF THIS SEAT. 7 by the template 'for every input the law returns true; each argument reads behind the call as it read before'; 0 by the template 'total and deterministic' (their statements: YtljjjdgnpnnmoaaTotals.lean).
  GIVEN WITH THE SEED: the statements are not yours to turn. If you find one false, say at which input.
  Laid BY PROGRAM, IN A SANDBOX (cutbox-rows.mjs): the forced cells as the released guide's own fill.sh prints them over the translation 961b94f85669b92b… (all of the seat's roots in one cut). By AI agents, Wed Nov 11 2026. No macro, syntax, notation, axiom, sorry.
-/
import Derived.Test.YtljjjdgnpnnmoaaChecked
import GoSem.Claim
import GoSem.ClaimJoined
import GoSem.ClaimMapViews
import Derived.JoinedTies
import Derived.KernelRfl
namespace Go.Proofs.Ytljjjdgnpnnmoaa
/- THE CELL 'sum', in the pinned program and in every row, IS THE sha256 OF THE DUMP (.gsa) THAT YtljjjdgnpnnmoaaProg.lean LOADS. Nothing in Lean hashes anything: it is a label: what it is worth is what the hold of that sum in a sandbox is worth. -/
noncomputable def Try.pinned : Pinned := { name := "ytljjjdgnpnnmoaa", sum := "961b94f85669b92b3df13dc29f49cee65e69d552655393d4516e132b60242bb0", checked := Try.checked }
namespace Rows
def none {H : Type} : Left H := { results := [], args := [] }

/-- 'laws.FnExactCountSlides': WHATEVER THE INPUT: true; the input reads as it did. -/
def fnExactCountSlidesSpec : ChangeSpec := { name := "fnExactCountSlides", fn := fun _ => fun
  | [d] => { results := [.lit (.bool true)], args := [d] }
  | _ => none }
def fnExactCountSlidesRow : OpenClaim := { program := "ytljjjdgnpnnmoaa", sum := "961b94f85669b92b3df13dc29f49cee65e69d552655393d4516e132b60242bb0", func := "loop.example/g00598/laws.FnExactCountSlides", spec := "fnExactCountSlides", apart := false }
def FnExactCountSlidesSaid : Prop := fnExactCountSlidesRow.holds Try.pinned (OpenSpec.ofChange fnExactCountSlidesSpec)

/-- ITS FALSE NEIGHBOUR: 'it returns false'. Refute it at one input. -/
def fnExactCountSlidesWrong : ChangeSpec := { name := "fnExactCountSlides", fn := fun _ => fun
  | [d] => { results := [.lit (.bool false)], args := [d] }
  | _ => none }
def FnExactCountSlidesWrongFalsely : Prop := fnExactCountSlidesRow.holds Try.pinned (OpenSpec.ofChange fnExactCountSlidesWrong)

/-- 'laws.FnExactReadingWord': WHATEVER THE INPUT: true; the input reads as it did. -/
def fnExactReadingWordSpec : ChangeSpec := { name := "fnExactReadingWord", fn := fun _ => fun
  | [d] => { results := [.lit (.bool true)], args := [d] }
  | _ => none }
def fnExactReadingWordRow : OpenClaim := { program := "ytljjjdgnpnnmoaa", sum := "961b94f85669b92b3df13dc29f49cee65e69d552655393d4516e132b60242bb0", func := "loop.example/g00598/laws.FnExactReadingWord", spec := "fnExactReadingWord", unfollowed := true, recurses := true, apart := false }
def FnExactReadingWordSaid : Prop := fnExactReadingWordRow.holds Try.pinned (OpenSpec.ofChange fnExactReadingWordSpec)

/-- ITS FALSE NEIGHBOUR: 'it returns false'. Refute it at one input. -/
def fnExactReadingWordWrong : ChangeSpec := { name := "fnExactReadingWord", fn := fun _ => fun
  | [d] => { results := [.lit (.bool false)], args := [d] }
  | _ => none }
def FnExactReadingWordWrongFalsely : Prop := fnExactReadingWordRow.holds Try.pinned (OpenSpec.ofChange fnExactReadingWordWrong)

/-- 'laws.FnExactSlideInto': WHATEVER THE INPUT: true; the input reads as it did. -/
def fnExactSlideIntoSpec : ChangeSpec := { name := "fnExactSlideInto", fn := fun _ => fun
  | [d1, d2] => { results := [.lit (.bool true)], args := [d1, d2] }
  | _ => none }
def fnExactSlideIntoRow : OpenClaim := { program := "ytljjjdgnpnnmoaa", sum := "961b94f85669b92b3df13dc29f49cee65e69d552655393d4516e132b60242bb0", func := "loop.example/g00598/laws.FnExactSlideInto", spec := "fnExactSlideInto", apart := false }
def FnExactSlideIntoSaid : Prop := fnExactSlideIntoRow.holds Try.pinned (OpenSpec.ofChange fnExactSlideIntoSpec)

/-- ITS FALSE NEIGHBOUR: 'it returns false'. Refute it at one input. -/
def fnExactSlideIntoWrong : ChangeSpec := { name := "fnExactSlideInto", fn := fun _ => fun
  | [d1, d2] => { results := [.lit (.bool false)], args := [d1, d2] }
  | _ => none }
def FnExactSlideIntoWrongFalsely : Prop := fnExactSlideIntoRow.holds Try.pinned (OpenSpec.ofChange fnExactSlideIntoWrong)

/-- 'laws.FnExactSlideOut': WHATEVER THE INPUT: true; the input reads as it did. -/
def fnExactSlideOutSpec : ChangeSpec := { name := "fnExactSlideOut", fn := fun _ => fun
  | [d1, d2] => { results := [.lit (.bool true)], args := [d1, d2] }
  | _ => none }
def fnExactSlideOutRow : OpenClaim := { program := "ytljjjdgnpnnmoaa", sum := "961b94f85669b92b3df13dc29f49cee65e69d552655393d4516e132b60242bb0", func := "loop.example/g00598/laws.FnExactSlideOut", spec := "fnExactSlideOut", apart := false }
def FnExactSlideOutSaid : Prop := fnExactSlideOutRow.holds Try.pinned (OpenSpec.ofChange fnExactSlideOutSpec)

/-- ITS FALSE NEIGHBOUR: 'it returns false'. Refute it at one input. -/
def fnExactSlideOutWrong : ChangeSpec := { name := "fnExactSlideOut", fn := fun _ => fun
  | [d1, d2] => { results := [.lit (.bool false)], args := [d1, d2] }
  | _ => none }
def FnExactSlideOutWrongFalsely : Prop := fnExactSlideOutRow.holds Try.pinned (OpenSpec.ofChange fnExactSlideOutWrong)

/-- 'laws.FnExactInsertInColumns': WHATEVER THE INPUT: true; the input reads as it did. -/
def fnExactInsertInColumnsSpec : ChangeSpec := { name := "fnExactInsertInColumns", fn := fun _ => fun
  | [d1, d2] => { results := [.lit (.bool true)], args := [d1, d2] }
  | _ => none }
def fnExactInsertInColumnsRow : OpenClaim := { program := "ytljjjdgnpnnmoaa", sum := "961b94f85669b92b3df13dc29f49cee65e69d552655393d4516e132b60242bb0", func := "loop.example/g00598/laws.FnExactInsertInColumns", spec := "fnExactInsertInColumns", unfollowed := true, recurses := true, apart := false }
def FnExactInsertInColumnsSaid : Prop := fnExactInsertInColumnsRow.holds Try.pinned (OpenSpec.ofChange fnExactInsertInColumnsSpec)

/-- ITS FALSE NEIGHBOUR: 'it returns false'. Refute it at one input. -/
def fnExactInsertInColumnsWrong : ChangeSpec := { name := "fnExactInsertInColumns", fn := fun _ => fun
  | [d1, d2] => { results := [.lit (.bool false)], args := [d1, d2] }
  | _ => none }
def FnExactInsertInColumnsWrongFalsely : Prop := fnExactInsertInColumnsRow.holds Try.pinned (OpenSpec.ofChange fnExactInsertInColumnsWrong)

/-- 'laws.FnExactProductOfTableaux': WHATEVER THE INPUT: true; the input reads as it did. -/
def fnExactProductOfTableauxSpec : ChangeSpec := { name := "fnExactProductOfTableaux", fn := fun _ => fun
  | [d1, d2] => { results := [.lit (.bool true)], args := [d1, d2] }
  | _ => none }
def fnExactProductOfTableauxRow : OpenClaim := { program := "ytljjjdgnpnnmoaa", sum := "961b94f85669b92b3df13dc29f49cee65e69d552655393d4516e132b60242bb0", func := "loop.example/g00598/laws.FnExactProductOfTableaux", spec := "fnExactProductOfTableaux", unfollowed := true, recurses := true, apart := false }
def FnExactProductOfTableauxSaid : Prop := fnExactProductOfTableauxRow.holds Try.pinned (OpenSpec.ofChange fnExactProductOfTableauxSpec)

/-- ITS FALSE NEIGHBOUR: 'it returns false'. Refute it at one input. -/
def fnExactProductOfTableauxWrong : ChangeSpec := { name := "fnExactProductOfTableaux", fn := fun _ => fun
  | [d1, d2] => { results := [.lit (.bool false)], args := [d1, d2] }
  | _ => none }
def FnExactProductOfTableauxWrongFalsely : Prop := fnExactProductOfTableauxRow.holds Try.pinned (OpenSpec.ofChange fnExactProductOfTableauxWrong)

/-- 'laws.FnExactEvacuateTableau': WHATEVER THE INPUT: true; the input reads as it did. -/
def fnExactEvacuateTableauSpec : ChangeSpec := { name := "fnExactEvacuateTableau", fn := fun _ => fun
  | [d1, d2] => { results := [.lit (.bool true)], args := [d1, d2] }
  | _ => none }
def fnExactEvacuateTableauRow : OpenClaim := { program := "ytljjjdgnpnnmoaa", sum := "961b94f85669b92b3df13dc29f49cee65e69d552655393d4516e132b60242bb0", func := "loop.example/g00598/laws.FnExactEvacuateTableau", spec := "fnExactEvacuateTableau", unfollowed := true, recurses := true, apart := false }
def FnExactEvacuateTableauSaid : Prop := fnExactEvacuateTableauRow.holds Try.pinned (OpenSpec.ofChange fnExactEvacuateTableauSpec)

/-- ITS FALSE NEIGHBOUR: 'it returns false'. Refute it at one input. -/
def fnExactEvacuateTableauWrong : ChangeSpec := { name := "fnExactEvacuateTableau", fn := fun _ => fun
  | [d1, d2] => { results := [.lit (.bool false)], args := [d1, d2] }
  | _ => none }
def FnExactEvacuateTableauWrongFalsely : Prop := fnExactEvacuateTableauRow.holds Try.pinned (OpenSpec.ofChange fnExactEvacuateTableauWrong)

/- THE SECOND FORM. 'bulk': how many values and letters a reading holds, each counted each time it is reached (what is shared counts as often as it is met; a slice's spare places count too). A statement '..UptoSaid' is the law's where the arguments, and the package variables that the reading takes, are together of bulk at most 1048576: NARROWER than '..Said'. Prove '..Said' where nothing that the law and all that it calls make is longer than what came in: it says more and counts as full. Else prove '..UptoSaid'. A law counts once. -/
mutual
def uptoBulk {H : Type} : DataW H → Nat
  | .lit (.string bytes) => bytes.length + 1
  | .lit _ => 1
  | .nil => 1
  | .ptr d => uptoBulk d + 1
  | .slice elems spare => uptoBulkAll elems + uptoBulkAll spare + 1
  | .agg parts => uptoBulkAll parts + 1
  | .iface _ d => uptoBulk d + 1
  | .map entries => uptoBulkEntries entries + 1
  | .held _ => 1
def uptoBulkAll {H : Type} : List (DataW H) → Nat
  | [] => 0
  | d :: r => uptoBulk d + uptoBulkAll r
def uptoBulkEntries {H : Type} : List (Lit × DataW H) → Nat
  | [] => 0
  | x :: r => uptoBulkEntry x + uptoBulkEntries r
def uptoBulkEntry {H : Type} : Lit × DataW H → Nat
  | (.string bytes, d) => bytes.length + uptoBulk d + 1
  | (_, d) => uptoBulk d + 1
 end
def uptoSmall : (H : Type) → List (DataW H) → Bool := fun _ ds => decide (uptoBulkAll ds ≤ 1048576)
def OpenSpec.upto (s : _root_.Go.ChangeSpec) : _root_.Go.OpenSpec := { _root_.Go.OpenSpec.ofChange s with cond := some uptoSmall }

/-- 'laws.FnExactCountSlides', WHERE WHAT IT READS IS OF BULK AT MOST 1048576: true; the input reads as it did. -/
def fnExactCountSlidesUptoRow : OpenClaim := { program := "ytljjjdgnpnnmoaa", sum := "961b94f85669b92b3df13dc29f49cee65e69d552655393d4516e132b60242bb0", func := "loop.example/g00598/laws.FnExactCountSlides", spec := "fnExactCountSlides", apart := false, narrowed := true }
def FnExactCountSlidesUptoSaid : Prop := fnExactCountSlidesUptoRow.holds Try.pinned (OpenSpec.upto fnExactCountSlidesSpec)

/-- 'laws.FnExactReadingWord', WHERE WHAT IT READS IS OF BULK AT MOST 1048576: true; the input reads as it did. -/
def fnExactReadingWordUptoRow : OpenClaim := { program := "ytljjjdgnpnnmoaa", sum := "961b94f85669b92b3df13dc29f49cee65e69d552655393d4516e132b60242bb0", func := "loop.example/g00598/laws.FnExactReadingWord", spec := "fnExactReadingWord", unfollowed := true, recurses := true, apart := false, narrowed := true }
def FnExactReadingWordUptoSaid : Prop := fnExactReadingWordUptoRow.holds Try.pinned (OpenSpec.upto fnExactReadingWordSpec)

/-- 'laws.FnExactSlideInto', WHERE WHAT IT READS IS OF BULK AT MOST 1048576: true; the input reads as it did. -/
def fnExactSlideIntoUptoRow : OpenClaim := { program := "ytljjjdgnpnnmoaa", sum := "961b94f85669b92b3df13dc29f49cee65e69d552655393d4516e132b60242bb0", func := "loop.example/g00598/laws.FnExactSlideInto", spec := "fnExactSlideInto", apart := false, narrowed := true }
def FnExactSlideIntoUptoSaid : Prop := fnExactSlideIntoUptoRow.holds Try.pinned (OpenSpec.upto fnExactSlideIntoSpec)

/-- 'laws.FnExactSlideOut', WHERE WHAT IT READS IS OF BULK AT MOST 1048576: true; the input reads as it did. -/
def fnExactSlideOutUptoRow : OpenClaim := { program := "ytljjjdgnpnnmoaa", sum := "961b94f85669b92b3df13dc29f49cee65e69d552655393d4516e132b60242bb0", func := "loop.example/g00598/laws.FnExactSlideOut", spec := "fnExactSlideOut", apart := false, narrowed := true }
def FnExactSlideOutUptoSaid : Prop := fnExactSlideOutUptoRow.holds Try.pinned (OpenSpec.upto fnExactSlideOutSpec)

/-- 'laws.FnExactInsertInColumns', WHERE WHAT IT READS IS OF BULK AT MOST 1048576: true; the input reads as it did. -/
def fnExactInsertInColumnsUptoRow : OpenClaim := { program := "ytljjjdgnpnnmoaa", sum := "961b94f85669b92b3df13dc29f49cee65e69d552655393d4516e132b60242bb0", func := "loop.example/g00598/laws.FnExactInsertInColumns", spec := "fnExactInsertInColumns", unfollowed := true, recurses := true, apart := false, narrowed := true }
def FnExactInsertInColumnsUptoSaid : Prop := fnExactInsertInColumnsUptoRow.holds Try.pinned (OpenSpec.upto fnExactInsertInColumnsSpec)

/-- 'laws.FnExactProductOfTableaux', WHERE WHAT IT READS IS OF BULK AT MOST 1048576: true; the input reads as it did. -/
def fnExactProductOfTableauxUptoRow : OpenClaim := { program := "ytljjjdgnpnnmoaa", sum := "961b94f85669b92b3df13dc29f49cee65e69d552655393d4516e132b60242bb0", func := "loop.example/g00598/laws.FnExactProductOfTableaux", spec := "fnExactProductOfTableaux", unfollowed := true, recurses := true, apart := false, narrowed := true }
def FnExactProductOfTableauxUptoSaid : Prop := fnExactProductOfTableauxUptoRow.holds Try.pinned (OpenSpec.upto fnExactProductOfTableauxSpec)

/-- 'laws.FnExactEvacuateTableau', WHERE WHAT IT READS IS OF BULK AT MOST 1048576: true; the input reads as it did. -/
def fnExactEvacuateTableauUptoRow : OpenClaim := { program := "ytljjjdgnpnnmoaa", sum := "961b94f85669b92b3df13dc29f49cee65e69d552655393d4516e132b60242bb0", func := "loop.example/g00598/laws.FnExactEvacuateTableau", spec := "fnExactEvacuateTableau", unfollowed := true, recurses := true, apart := false, narrowed := true }
def FnExactEvacuateTableauUptoSaid : Prop := fnExactEvacuateTableauUptoRow.holds Try.pinned (OpenSpec.upto fnExactEvacuateTableauSpec)

end Rows
end Go.Proofs.Ytljjjdgnpnnmoaa
