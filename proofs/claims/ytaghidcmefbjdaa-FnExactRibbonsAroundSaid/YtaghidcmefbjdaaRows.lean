/-
  No cell of these rows narrows 'for every input' (looked for: loops, veiled, ifaces, maps, wideKeys, modest, calm, conditions, laid).
  DERIVED. THE GIVEN ROWS OF THIS SEAT. 6 by the template 'for every input the law returns true; each argument reads behind the call as it read before'; 0 by the template 'total and deterministic' (their statements: YtaghidcmefbjdaaTotals.lean).
  GIVEN WITH THE SEED: the statements are not yours to turn. If you find one false, say at which input.
  Laid BY PROGRAM, IN A SANDBOX (cutbox-rows.mjs): the forced cells as the released guide's own fill.sh prints them over the translation ce39fada8b1ef20b… (all of the seat's roots in one cut). By AI agents, Wed Nov 11 2026. No macro, syntax, notation, axiom, sorry.
-/
import Derived.Test.YtaghidcmefbjdaaChecked
import GoSem.Claim
import GoSem.ClaimJoined
import GoSem.ClaimMapViews
import Derived.JoinedTies
import Derived.KernelRfl
namespace Go.Proofs.Ytaghidcmefbjdaa
/- THE CELL 'sum', in the pinned program and in every row, IS THE sha256 OF THE DUMP (.gsa) THAT YtaghidcmefbjdaaProg.lean LOADS. Nothing in Lean hashes anything: it is a label: what it is worth is what the hold of that sum in a sandbox is worth. -/
noncomputable def Try.pinned : Pinned := { name := "ytaghidcmefbjdaa", sum := "ce39fada8b1ef20b6e3e27b37e74074ec998edc5cd6aaab390938ccdcd2587c0", checked := Try.checked }
namespace Rows
def none {H : Type} : Left H := { results := [], args := [] }

/-- 'laws.FnExactRemoveHorizontal': WHATEVER THE INPUT: true; the input reads as it did. -/
def fnExactRemoveHorizontalSpec : ChangeSpec := { name := "fnExactRemoveHorizontal", fn := fun _ => fun
  | [d1, d2] => { results := [.lit (.bool true)], args := [d1, d2] }
  | _ => none }
def fnExactRemoveHorizontalRow : OpenClaim := { program := "ytaghidcmefbjdaa", sum := "ce39fada8b1ef20b6e3e27b37e74074ec998edc5cd6aaab390938ccdcd2587c0", func := "loop.example/g00598/laws.FnExactRemoveHorizontal", spec := "fnExactRemoveHorizontal", unfollowed := true, recurses := true, apart := false }
def FnExactRemoveHorizontalSaid : Prop := fnExactRemoveHorizontalRow.holds Try.pinned (OpenSpec.ofChange fnExactRemoveHorizontalSpec)

/-- ITS FALSE NEIGHBOUR: 'it returns false'. Refute it at one input. -/
def fnExactRemoveHorizontalWrong : ChangeSpec := { name := "fnExactRemoveHorizontal", fn := fun _ => fun
  | [d1, d2] => { results := [.lit (.bool false)], args := [d1, d2] }
  | _ => none }
def FnExactRemoveHorizontalWrongFalsely : Prop := fnExactRemoveHorizontalRow.holds Try.pinned (OpenSpec.ofChange fnExactRemoveHorizontalWrong)

/-- 'laws.FnExactAddHorizontal': WHATEVER THE INPUT: true; the input reads as it did. -/
def fnExactAddHorizontalSpec : ChangeSpec := { name := "fnExactAddHorizontal", fn := fun _ => fun
  | [d1, d2] => { results := [.lit (.bool true)], args := [d1, d2] }
  | _ => none }
def fnExactAddHorizontalRow : OpenClaim := { program := "ytaghidcmefbjdaa", sum := "ce39fada8b1ef20b6e3e27b37e74074ec998edc5cd6aaab390938ccdcd2587c0", func := "loop.example/g00598/laws.FnExactAddHorizontal", spec := "fnExactAddHorizontal", unfollowed := true, recurses := true, apart := false }
def FnExactAddHorizontalSaid : Prop := fnExactAddHorizontalRow.holds Try.pinned (OpenSpec.ofChange fnExactAddHorizontalSpec)

/-- ITS FALSE NEIGHBOUR: 'it returns false'. Refute it at one input. -/
def fnExactAddHorizontalWrong : ChangeSpec := { name := "fnExactAddHorizontal", fn := fun _ => fun
  | [d1, d2] => { results := [.lit (.bool false)], args := [d1, d2] }
  | _ => none }
def FnExactAddHorizontalWrongFalsely : Prop := fnExactAddHorizontalRow.holds Try.pinned (OpenSpec.ofChange fnExactAddHorizontalWrong)

/-- 'laws.FnExactAddVertical': WHATEVER THE INPUT: true; the input reads as it did. -/
def fnExactAddVerticalSpec : ChangeSpec := { name := "fnExactAddVertical", fn := fun _ => fun
  | [d1, d2] => { results := [.lit (.bool true)], args := [d1, d2] }
  | _ => none }
def fnExactAddVerticalRow : OpenClaim := { program := "ytaghidcmefbjdaa", sum := "ce39fada8b1ef20b6e3e27b37e74074ec998edc5cd6aaab390938ccdcd2587c0", func := "loop.example/g00598/laws.FnExactAddVertical", spec := "fnExactAddVertical", unfollowed := true, recurses := true, apart := false }
def FnExactAddVerticalSaid : Prop := fnExactAddVerticalRow.holds Try.pinned (OpenSpec.ofChange fnExactAddVerticalSpec)

/-- ITS FALSE NEIGHBOUR: 'it returns false'. Refute it at one input. -/
def fnExactAddVerticalWrong : ChangeSpec := { name := "fnExactAddVertical", fn := fun _ => fun
  | [d1, d2] => { results := [.lit (.bool false)], args := [d1, d2] }
  | _ => none }
def FnExactAddVerticalWrongFalsely : Prop := fnExactAddVerticalRow.holds Try.pinned (OpenSpec.ofChange fnExactAddVerticalWrong)

/-- 'laws.FnExactRibbonsInside': WHATEVER THE INPUT: true; the input reads as it did. -/
def fnExactRibbonsInsideSpec : ChangeSpec := { name := "fnExactRibbonsInside", fn := fun _ => fun
  | [d1, d2] => { results := [.lit (.bool true)], args := [d1, d2] }
  | _ => none }
def fnExactRibbonsInsideRow : OpenClaim := { program := "ytaghidcmefbjdaa", sum := "ce39fada8b1ef20b6e3e27b37e74074ec998edc5cd6aaab390938ccdcd2587c0", func := "loop.example/g00598/laws.FnExactRibbonsInside", spec := "fnExactRibbonsInside", unfollowed := true, recurses := true, apart := false }
def FnExactRibbonsInsideSaid : Prop := fnExactRibbonsInsideRow.holds Try.pinned (OpenSpec.ofChange fnExactRibbonsInsideSpec)

/-- ITS FALSE NEIGHBOUR: 'it returns false'. Refute it at one input. -/
def fnExactRibbonsInsideWrong : ChangeSpec := { name := "fnExactRibbonsInside", fn := fun _ => fun
  | [d1, d2] => { results := [.lit (.bool false)], args := [d1, d2] }
  | _ => none }
def FnExactRibbonsInsideWrongFalsely : Prop := fnExactRibbonsInsideRow.holds Try.pinned (OpenSpec.ofChange fnExactRibbonsInsideWrong)

/-- 'laws.FnExactRibbonsAround': WHATEVER THE INPUT: true; the input reads as it did. -/
def fnExactRibbonsAroundSpec : ChangeSpec := { name := "fnExactRibbonsAround", fn := fun _ => fun
  | [d1, d2] => { results := [.lit (.bool true)], args := [d1, d2] }
  | _ => none }
def fnExactRibbonsAroundRow : OpenClaim := { program := "ytaghidcmefbjdaa", sum := "ce39fada8b1ef20b6e3e27b37e74074ec998edc5cd6aaab390938ccdcd2587c0", func := "loop.example/g00598/laws.FnExactRibbonsAround", spec := "fnExactRibbonsAround", unfollowed := true, recurses := true, apart := false }
def FnExactRibbonsAroundSaid : Prop := fnExactRibbonsAroundRow.holds Try.pinned (OpenSpec.ofChange fnExactRibbonsAroundSpec)

/-- ITS FALSE NEIGHBOUR: 'it returns false'. Refute it at one input. -/
def fnExactRibbonsAroundWrong : ChangeSpec := { name := "fnExactRibbonsAround", fn := fun _ => fun
  | [d1, d2] => { results := [.lit (.bool false)], args := [d1, d2] }
  | _ => none }
def FnExactRibbonsAroundWrongFalsely : Prop := fnExactRibbonsAroundRow.holds Try.pinned (OpenSpec.ofChange fnExactRibbonsAroundWrong)

/-- 'laws.FnStrips': WHATEVER THE INPUT: true; the input reads as it did. -/
def fnStripsSpec : ChangeSpec := { name := "fnStrips", fn := fun _ => fun
  | [d] => { results := [.lit (.bool true)], args := [d] }
  | _ => none }
def fnStripsRow : OpenClaim := { program := "ytaghidcmefbjdaa", sum := "ce39fada8b1ef20b6e3e27b37e74074ec998edc5cd6aaab390938ccdcd2587c0", func := "loop.example/g00598/laws.FnStrips", spec := "fnStrips", unfollowed := true, recurses := true, apart := false }
def FnStripsSaid : Prop := fnStripsRow.holds Try.pinned (OpenSpec.ofChange fnStripsSpec)

/-- ITS FALSE NEIGHBOUR: 'it returns false'. Refute it at one input. -/
def fnStripsWrong : ChangeSpec := { name := "fnStrips", fn := fun _ => fun
  | [d] => { results := [.lit (.bool false)], args := [d] }
  | _ => none }
def FnStripsWrongFalsely : Prop := fnStripsRow.holds Try.pinned (OpenSpec.ofChange fnStripsWrong)

/- THE SECOND FORM. 'bulk': how many values and letters a reading holds, each counted each time it is reached (what is shared counts as often as it is met; a slice's spare places count too). A statement '..UptoSaid' is the law's where the arguments, and the package variables that the reading takes, are together of bulk at most 1048576: NARROWER than '..Said'. Prove '..Said' where nothing that the law and all that it calls make is longer than what came in: it says more and counts as full. Else prove '..UptoSaid'. A law counts once. -/
mutual
def uptoBulk {H : Type} : DataW H → Nat
  | .lit (.string bytes) => bytes.length + 1
  | .lit _ => 1
  | .nil => 1
  | .ptr d => uptoBulk d + 1
  | .slice elems spare => uptoBulkAll elems + uptoBulkAll spare + 1
  | .agg parts => uptoBulkAll parts + 1
  | .iface _ d => uptoBulk d + 1
  | .map entries => uptoBulkEntries entries + 1
  | .held _ => 1
def uptoBulkAll {H : Type} : List (DataW H) → Nat
  | [] => 0
  | d :: r => uptoBulk d + uptoBulkAll r
def uptoBulkEntries {H : Type} : List (Lit × DataW H) → Nat
  | [] => 0
  | x :: r => uptoBulkEntry x + uptoBulkEntries r
def uptoBulkEntry {H : Type} : Lit × DataW H → Nat
  | (.string bytes, d) => bytes.length + uptoBulk d + 1
  | (_, d) => uptoBulk d + 1
 end
def uptoSmall : (H : Type) → List (DataW H) → Bool := fun _ ds => decide (uptoBulkAll ds ≤ 1048576)
def OpenSpec.upto (s : _root_.Go.ChangeSpec) : _root_.Go.OpenSpec := { _root_.Go.OpenSpec.ofChange s with cond := some uptoSmall }

/-- 'laws.FnExactRemoveHorizontal', WHERE WHAT IT READS IS OF BULK AT MOST 1048576: true; the input reads as it did. -/
def fnExactRemoveHorizontalUptoRow : OpenClaim := { program := "ytaghidcmefbjdaa", sum := "ce39fada8b1ef20b6e3e27b37e74074ec998edc5cd6aaab390938ccdcd2587c0", func := "loop.example/g00598/laws.FnExactRemoveHorizontal", spec := "fnExactRemoveHorizontal", unfollowed := true, recurses := true, apart := false, narrowed := true }
def FnExactRemoveHorizontalUptoSaid : Prop := fnExactRemoveHorizontalUptoRow.holds Try.pinned (OpenSpec.upto fnExactRemoveHorizontalSpec)

/-- 'laws.FnExactAddHorizontal', WHERE WHAT IT READS IS OF BULK AT MOST 1048576: true; the input reads as it did. -/
def fnExactAddHorizontalUptoRow : OpenClaim := { program := "ytaghidcmefbjdaa", sum := "ce39fada8b1ef20b6e3e27b37e74074ec998edc5cd6aaab390938ccdcd2587c0", func := "loop.example/g00598/laws.FnExactAddHorizontal", spec := "fnExactAddHorizontal", unfollowed := true, recurses := true, apart := false, narrowed := true }
def FnExactAddHorizontalUptoSaid : Prop := fnExactAddHorizontalUptoRow.holds Try.pinned (OpenSpec.upto fnExactAddHorizontalSpec)

/-- 'laws.FnExactAddVertical', WHERE WHAT IT READS IS OF BULK AT MOST 1048576: true; the input reads as it did. -/
def fnExactAddVerticalUptoRow : OpenClaim := { program := "ytaghidcmefbjdaa", sum := "ce39fada8b1ef20b6e3e27b37e74074ec998edc5cd6aaab390938ccdcd2587c0", func := "loop.example/g00598/laws.FnExactAddVertical", spec := "fnExactAddVertical", unfollowed := true, recurses := true, apart := false, narrowed := true }
def FnExactAddVerticalUptoSaid : Prop := fnExactAddVerticalUptoRow.holds Try.pinned (OpenSpec.upto fnExactAddVerticalSpec)

/-- 'laws.FnExactRibbonsInside', WHERE WHAT IT READS IS OF BULK AT MOST 1048576: true; the input reads as it did. -/
def fnExactRibbonsInsideUptoRow : OpenClaim := { program := "ytaghidcmefbjdaa", sum := "ce39fada8b1ef20b6e3e27b37e74074ec998edc5cd6aaab390938ccdcd2587c0", func := "loop.example/g00598/laws.FnExactRibbonsInside", spec := "fnExactRibbonsInside", unfollowed := true, recurses := true, apart := false, narrowed := true }
def FnExactRibbonsInsideUptoSaid : Prop := fnExactRibbonsInsideUptoRow.holds Try.pinned (OpenSpec.upto fnExactRibbonsInsideSpec)

/-- 'laws.FnExactRibbonsAround', WHERE WHAT IT READS IS OF BULK AT MOST 1048576: true; the input reads as it did. -/
def fnExactRibbonsAroundUptoRow : OpenClaim := { program := "ytaghidcmefbjdaa", sum := "ce39fada8b1ef20b6e3e27b37e74074ec998edc5cd6aaab390938ccdcd2587c0", func := "loop.example/g00598/laws.FnExactRibbonsAround", spec := "fnExactRibbonsAround", unfollowed := true, recurses := true, apart := false, narrowed := true }
def FnExactRibbonsAroundUptoSaid : Prop := fnExactRibbonsAroundUptoRow.holds Try.pinned (OpenSpec.upto fnExactRibbonsAroundSpec)

/-- 'laws.FnStrips', WHERE WHAT IT READS IS OF BULK AT MOST 1048576: true; the input reads as it did. -/
def fnStripsUptoRow : OpenClaim := { program := "ytaghidcmefbjdaa", sum := "ce39fada8b1ef20b6e3e27b37e74074ec998edc5cd6aaab390938ccdcd2587c0", func := "loop.example/g00598/laws.FnStrips", spec := "fnStrips", unfollowed := true, recurses := true, apart := false, narrowed := true }
def FnStripsUptoSaid : Prop := fnStripsUptoRow.holds Try.pinned (OpenSpec.upto fnStripsSpec)

end Rows
end Go.Proofs.Ytaghidcmefbjdaa
