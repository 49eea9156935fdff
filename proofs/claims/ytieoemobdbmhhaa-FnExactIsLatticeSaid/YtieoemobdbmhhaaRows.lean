/-
  No cell of these rows narrows 'for every input' (looked for: loops, veiled, ifaces, maps, wideKeys, modest, calm, conditions, laid).
  DERIVED. THE GIVEN ROWS OF THIS SEAT. 6 by the template 'for every input the law returns true; each argument reads behind the call as it read before'; 0 by the template 'total and deterministic' (their statements: YtieoemobdbmhhaaTotals.lean).
  GIVEN WITH THE SEED: the statements are not yours to turn. If you find one false, say at which input.
  Laid BY PROGRAM, IN A SANDBOX (cutbox-rows.mjs): the forced cells as the released guide's own fill.sh prints them over the translation 12677bde32e021b8… (all of the seat's roots in one cut). By AI agents, Wed Nov 11 2026. No macro, syntax, notation, axiom, sorry.
-/
import Derived.Test.YtieoemobdbmhhaaChecked
import GoSem.Claim
import GoSem.ClaimJoined
import GoSem.ClaimMapViews
import Derived.JoinedTies
import Derived.KernelRfl
namespace Go.Proofs.Ytieoemobdbmhhaa
/- THE CELL 'sum', in the pinned program and in every row, IS THE sha256 OF THE DUMP (.gsa) THAT YtieoemobdbmhhaaProg.lean LOADS. Nothing in Lean hashes anything: it is a label: what it is worth is what the hold of that sum in a sandbox is worth. -/
noncomputable def Try.pinned : Pinned := { name := "ytieoemobdbmhhaa", sum := "12677bde32e021b86f273a816fe299d2b87dcdd15fa1db959d8e006d730e23f1", checked := Try.checked }
namespace Rows
def none {H : Type} : Left H := { results := [], args := [] }

/-- 'laws.FnExactIsWord': WHATEVER THE INPUT: true; the input reads as it did. -/
def fnExactIsWordSpec : ChangeSpec := { name := "fnExactIsWord", fn := fun _ => fun
  | [d] => { results := [.lit (.bool true)], args := [d] }
  | _ => none }
def fnExactIsWordRow : OpenClaim := { program := "ytieoemobdbmhhaa", sum := "12677bde32e021b86f273a816fe299d2b87dcdd15fa1db959d8e006d730e23f1", func := "loop.example/g00598/laws.FnExactIsWord", spec := "fnExactIsWord", unfollowed := true, recurses := true, apart := false }
def FnExactIsWordSaid : Prop := fnExactIsWordRow.holds Try.pinned (OpenSpec.ofChange fnExactIsWordSpec)

/-- ITS FALSE NEIGHBOUR: 'it returns false'. Refute it at one input. -/
def fnExactIsWordWrong : ChangeSpec := { name := "fnExactIsWord", fn := fun _ => fun
  | [d] => { results := [.lit (.bool false)], args := [d] }
  | _ => none }
def FnExactIsWordWrongFalsely : Prop := fnExactIsWordRow.holds Try.pinned (OpenSpec.ofChange fnExactIsWordWrong)

/-- 'laws.FnExactDescentCount': WHATEVER THE INPUT: true; the input reads as it did. -/
def fnExactDescentCountSpec : ChangeSpec := { name := "fnExactDescentCount", fn := fun _ => fun
  | [d] => { results := [.lit (.bool true)], args := [d] }
  | _ => none }
def fnExactDescentCountRow : OpenClaim := { program := "ytieoemobdbmhhaa", sum := "12677bde32e021b86f273a816fe299d2b87dcdd15fa1db959d8e006d730e23f1", func := "loop.example/g00598/laws.FnExactDescentCount", spec := "fnExactDescentCount", unfollowed := true, recurses := true, apart := false }
def FnExactDescentCountSaid : Prop := fnExactDescentCountRow.holds Try.pinned (OpenSpec.ofChange fnExactDescentCountSpec)

/-- ITS FALSE NEIGHBOUR: 'it returns false'. Refute it at one input. -/
def fnExactDescentCountWrong : ChangeSpec := { name := "fnExactDescentCount", fn := fun _ => fun
  | [d] => { results := [.lit (.bool false)], args := [d] }
  | _ => none }
def FnExactDescentCountWrongFalsely : Prop := fnExactDescentCountRow.holds Try.pinned (OpenSpec.ofChange fnExactDescentCountWrong)

/-- 'laws.FnExactInversionCount': WHATEVER THE INPUT: true; the input reads as it did. -/
def fnExactInversionCountSpec : ChangeSpec := { name := "fnExactInversionCount", fn := fun _ => fun
  | [d] => { results := [.lit (.bool true)], args := [d] }
  | _ => none }
def fnExactInversionCountRow : OpenClaim := { program := "ytieoemobdbmhhaa", sum := "12677bde32e021b86f273a816fe299d2b87dcdd15fa1db959d8e006d730e23f1", func := "loop.example/g00598/laws.FnExactInversionCount", spec := "fnExactInversionCount", unfollowed := true, recurses := true, apart := false }
def FnExactInversionCountSaid : Prop := fnExactInversionCountRow.holds Try.pinned (OpenSpec.ofChange fnExactInversionCountSpec)

/-- ITS FALSE NEIGHBOUR: 'it returns false'. Refute it at one input. -/
def fnExactInversionCountWrong : ChangeSpec := { name := "fnExactInversionCount", fn := fun _ => fun
  | [d] => { results := [.lit (.bool false)], args := [d] }
  | _ => none }
def FnExactInversionCountWrongFalsely : Prop := fnExactInversionCountRow.holds Try.pinned (OpenSpec.ofChange fnExactInversionCountWrong)

/-- 'laws.FnExactIsLattice': WHATEVER THE INPUT: true; the input reads as it did. -/
def fnExactIsLatticeSpec : ChangeSpec := { name := "fnExactIsLattice", fn := fun _ => fun
  | [d] => { results := [.lit (.bool true)], args := [d] }
  | _ => none }
def fnExactIsLatticeRow : OpenClaim := { program := "ytieoemobdbmhhaa", sum := "12677bde32e021b86f273a816fe299d2b87dcdd15fa1db959d8e006d730e23f1", func := "loop.example/g00598/laws.FnExactIsLattice", spec := "fnExactIsLattice", unfollowed := true, recurses := true, apart := false }
def FnExactIsLatticeSaid : Prop := fnExactIsLatticeRow.holds Try.pinned (OpenSpec.ofChange fnExactIsLatticeSpec)

/-- ITS FALSE NEIGHBOUR: 'it returns false'. Refute it at one input. -/
def fnExactIsLatticeWrong : ChangeSpec := { name := "fnExactIsLattice", fn := fun _ => fun
  | [d] => { results := [.lit (.bool false)], args := [d] }
  | _ => none }
def FnExactIsLatticeWrongFalsely : Prop := fnExactIsLatticeRow.holds Try.pinned (OpenSpec.ofChange fnExactIsLatticeWrong)

/-- 'laws.FnExactComplementWord': WHATEVER THE INPUT: true; the input reads as it did. -/
def fnExactComplementWordSpec : ChangeSpec := { name := "fnExactComplementWord", fn := fun _ => fun
  | [d1, d2] => { results := [.lit (.bool true)], args := [d1, d2] }
  | _ => none }
def fnExactComplementWordRow : OpenClaim := { program := "ytieoemobdbmhhaa", sum := "12677bde32e021b86f273a816fe299d2b87dcdd15fa1db959d8e006d730e23f1", func := "loop.example/g00598/laws.FnExactComplementWord", spec := "fnExactComplementWord", unfollowed := true, recurses := true, apart := false }
def FnExactComplementWordSaid : Prop := fnExactComplementWordRow.holds Try.pinned (OpenSpec.ofChange fnExactComplementWordSpec)

/-- ITS FALSE NEIGHBOUR: 'it returns false'. Refute it at one input. -/
def fnExactComplementWordWrong : ChangeSpec := { name := "fnExactComplementWord", fn := fun _ => fun
  | [d1, d2] => { results := [.lit (.bool false)], args := [d1, d2] }
  | _ => none }
def FnExactComplementWordWrongFalsely : Prop := fnExactComplementWordRow.holds Try.pinned (OpenSpec.ofChange fnExactComplementWordWrong)

/-- 'laws.FnExactReverseWord': WHATEVER THE INPUT: true; the input reads as it did. -/
def fnExactReverseWordSpec : ChangeSpec := { name := "fnExactReverseWord", fn := fun _ => fun
  | [d] => { results := [.lit (.bool true)], args := [d] }
  | _ => none }
def fnExactReverseWordRow : OpenClaim := { program := "ytieoemobdbmhhaa", sum := "12677bde32e021b86f273a816fe299d2b87dcdd15fa1db959d8e006d730e23f1", func := "loop.example/g00598/laws.FnExactReverseWord", spec := "fnExactReverseWord", unfollowed := true, recurses := true, apart := false }
def FnExactReverseWordSaid : Prop := fnExactReverseWordRow.holds Try.pinned (OpenSpec.ofChange fnExactReverseWordSpec)

/-- ITS FALSE NEIGHBOUR: 'it returns false'. Refute it at one input. -/
def fnExactReverseWordWrong : ChangeSpec := { name := "fnExactReverseWord", fn := fun _ => fun
  | [d] => { results := [.lit (.bool false)], args := [d] }
  | _ => none }
def FnExactReverseWordWrongFalsely : Prop := fnExactReverseWordRow.holds Try.pinned (OpenSpec.ofChange fnExactReverseWordWrong)

/- THE SECOND FORM. 'bulk': how many values and letters a reading holds, each counted each time it is reached (what is shared counts as often as it is met; a slice's spare places count too). A statement '..UptoSaid' is the law's where the arguments, and the package variables that the reading takes, are together of bulk at most 1048576: NARROWER than '..Said'. Prove '..Said' where nothing that the law and all that it calls make is longer than what came in: it says more and counts as full. Else prove '..UptoSaid'. A law counts once. -/
mutual
def uptoBulk {H : Type} : DataW H → Nat
  | .lit (.string bytes) => bytes.length + 1
  | .lit _ => 1
  | .nil => 1
  | .ptr d => uptoBulk d + 1
  | .slice elems spare => uptoBulkAll elems + uptoBulkAll spare + 1
  | .agg parts => uptoBulkAll parts + 1
  | .iface _ d => uptoBulk d + 1
  | .map entries => uptoBulkEntries entries + 1
  | .held _ => 1
def uptoBulkAll {H : Type} : List (DataW H) → Nat
  | [] => 0
  | d :: r => uptoBulk d + uptoBulkAll r
def uptoBulkEntries {H : Type} : List (Lit × DataW H) → Nat
  | [] => 0
  | x :: r => uptoBulkEntry x + uptoBulkEntries r
def uptoBulkEntry {H : Type} : Lit × DataW H → Nat
  | (.string bytes, d) => bytes.length + uptoBulk d + 1
  | (_, d) => uptoBulk d + 1
 end
def uptoSmall : (H : Type) → List (DataW H) → Bool := fun _ ds => decide (uptoBulkAll ds ≤ 1048576)
def OpenSpec.upto (s : _root_.Go.ChangeSpec) : _root_.Go.OpenSpec := { _root_.Go.OpenSpec.ofChange s with cond := some uptoSmall }

/-- 'laws.FnExactIsWord', WHERE WHAT IT READS IS OF BULK AT MOST 1048576: true; the input reads as it did. -/
def fnExactIsWordUptoRow : OpenClaim := { program := "ytieoemobdbmhhaa", sum := "12677bde32e021b86f273a816fe299d2b87dcdd15fa1db959d8e006d730e23f1", func := "loop.example/g00598/laws.FnExactIsWord", spec := "fnExactIsWord", unfollowed := true, recurses := true, apart := false, narrowed := true }
def FnExactIsWordUptoSaid : Prop := fnExactIsWordUptoRow.holds Try.pinned (OpenSpec.upto fnExactIsWordSpec)

/-- 'laws.FnExactDescentCount', WHERE WHAT IT READS IS OF BULK AT MOST 1048576: true; the input reads as it did. -/
def fnExactDescentCountUptoRow : OpenClaim := { program := "ytieoemobdbmhhaa", sum := "12677bde32e021b86f273a816fe299d2b87dcdd15fa1db959d8e006d730e23f1", func := "loop.example/g00598/laws.FnExactDescentCount", spec := "fnExactDescentCount", unfollowed := true, recurses := true, apart := false, narrowed := true }
def FnExactDescentCountUptoSaid : Prop := fnExactDescentCountUptoRow.holds Try.pinned (OpenSpec.upto fnExactDescentCountSpec)

/-- 'laws.FnExactInversionCount', WHERE WHAT IT READS IS OF BULK AT MOST 1048576: true; the input reads as it did. -/
def fnExactInversionCountUptoRow : OpenClaim := { program := "ytieoemobdbmhhaa", sum := "12677bde32e021b86f273a816fe299d2b87dcdd15fa1db959d8e006d730e23f1", func := "loop.example/g00598/laws.FnExactInversionCount", spec := "fnExactInversionCount", unfollowed := true, recurses := true, apart := false, narrowed := true }
def FnExactInversionCountUptoSaid : Prop := fnExactInversionCountUptoRow.holds Try.pinned (OpenSpec.upto fnExactInversionCountSpec)

/-- 'laws.FnExactIsLattice', WHERE WHAT IT READS IS OF BULK AT MOST 1048576: true; the input reads as it did. -/
def fnExactIsLatticeUptoRow : OpenClaim := { program := "ytieoemobdbmhhaa", sum := "12677bde32e021b86f273a816fe299d2b87dcdd15fa1db959d8e006d730e23f1", func := "loop.example/g00598/laws.FnExactIsLattice", spec := "fnExactIsLattice", unfollowed := true, recurses := true, apart := false, narrowed := true }
def FnExactIsLatticeUptoSaid : Prop := fnExactIsLatticeUptoRow.holds Try.pinned (OpenSpec.upto fnExactIsLatticeSpec)

/-- 'laws.FnExactComplementWord', WHERE WHAT IT READS IS OF BULK AT MOST 1048576: true; the input reads as it did. -/
def fnExactComplementWordUptoRow : OpenClaim := { program := "ytieoemobdbmhhaa", sum := "12677bde32e021b86f273a816fe299d2b87dcdd15fa1db959d8e006d730e23f1", func := "loop.example/g00598/laws.FnExactComplementWord", spec := "fnExactComplementWord", unfollowed := true, recurses := true, apart := false, narrowed := true }
def FnExactComplementWordUptoSaid : Prop := fnExactComplementWordUptoRow.holds Try.pinned (OpenSpec.upto fnExactComplementWordSpec)

/-- 'laws.FnExactReverseWord', WHERE WHAT IT READS IS OF BULK AT MOST 1048576: true; the input reads as it did. -/
def fnExactReverseWordUptoRow : OpenClaim := { program := "ytieoemobdbmhhaa", sum := "12677bde32e021b86f273a816fe299d2b87dcdd15fa1db959d8e006d730e23f1", func := "loop.example/g00598/laws.FnExactReverseWord", spec := "fnExactReverseWord", unfollowed := true, recurses := true, apart := false, narrowed := true }
def FnExactReverseWordUptoSaid : Prop := fnExactReverseWordUptoRow.holds Try.pinned (OpenSpec.upto fnExactReverseWordSpec)

end Rows
end Go.Proofs.Ytieoemobdbmhhaa
