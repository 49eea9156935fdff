/-
  No cell of these rows narrows 'for every input' (looked for: loops, veiled, ifaces, maps, wideKeys, modest, calm, conditions, laid).
  DERIVED. THE GIVEN ROWS OF THIS SEAT. 9 by the template 'for every input the law returns true; each argument reads behind the call as it read before'; 0 by the template 'total and deterministic' (their statements: YtekjnjejgefbhaaTotals.lean).
  GIVEN WITH THE SEED: the statements are not yours to turn. If you find one false, say at which input.
  Laid BY PROGRAM, IN A SANDBOX (cutbox-rows.mjs): the forced cells as the released guide's own fill.sh prints them over the translation 05df30cbc3c34eba… (all of the seat's roots in one cut). By AI agents, Wed Nov 11 2026. No macro, syntax, notation, axiom, sorry.
-/
import Derived.Test.YtekjnjejgefbhaaChecked
import GoSem.Claim
import GoSem.ClaimJoined
import GoSem.ClaimMapViews
import Derived.JoinedTies
import Derived.KernelRfl
namespace Go.Proofs.Ytekjnjejgefbhaa
/- THE CELL 'sum', in the pinned program and in every row, IS THE sha256 OF THE DUMP (.gsa) THAT YtekjnjejgefbhaaProg.lean LOADS. Nothing in Lean hashes anything: it is a label: what it is worth is what the hold of that sum in a sandbox is worth. -/
noncomputable def Try.pinned : Pinned := { name := "ytekjnjejgefbhaa", sum := "05df30cbc3c34eba03ac0dae009cc05da5f9d48bca067c25a084c4931414bf57", checked := Try.checked }
namespace Rows
def none {H : Type} : Left H := { results := [], args := [] }

/-- 'laws.FnExactStandardizeWord': WHATEVER THE INPUT: true; the input reads as it did. -/
def fnExactStandardizeWordSpec : ChangeSpec := { name := "fnExactStandardizeWord", fn := fun _ => fun
  | [d] => { results := [.lit (.bool true)], args := [d] }
  | _ => none }
def fnExactStandardizeWordRow : OpenClaim := { program := "ytekjnjejgefbhaa", sum := "05df30cbc3c34eba03ac0dae009cc05da5f9d48bca067c25a084c4931414bf57", func := "loop.example/g00598/laws.FnExactStandardizeWord", spec := "fnExactStandardizeWord", unfollowed := true, recurses := true, apart := false }
def FnExactStandardizeWordSaid : Prop := fnExactStandardizeWordRow.holds Try.pinned (OpenSpec.ofChange fnExactStandardizeWordSpec)

/-- ITS FALSE NEIGHBOUR: 'it returns false'. Refute it at one input. -/
def fnExactStandardizeWordWrong : ChangeSpec := { name := "fnExactStandardizeWord", fn := fun _ => fun
  | [d] => { results := [.lit (.bool false)], args := [d] }
  | _ => none }
def FnExactStandardizeWordWrongFalsely : Prop := fnExactStandardizeWordRow.holds Try.pinned (OpenSpec.ofChange fnExactStandardizeWordWrong)

/-- 'laws.FnExactIsMatrix': WHATEVER THE INPUT: true; the input reads as it did. -/
def fnExactIsMatrixSpec : ChangeSpec := { name := "fnExactIsMatrix", fn := fun _ => fun
  | [d] => { results := [.lit (.bool true)], args := [d] }
  | _ => none }
def fnExactIsMatrixRow : OpenClaim := { program := "ytekjnjejgefbhaa", sum := "05df30cbc3c34eba03ac0dae009cc05da5f9d48bca067c25a084c4931414bf57", func := "loop.example/g00598/laws.FnExactIsMatrix", spec := "fnExactIsMatrix", unfollowed := true, recurses := true, apart := false }
def FnExactIsMatrixSaid : Prop := fnExactIsMatrixRow.holds Try.pinned (OpenSpec.ofChange fnExactIsMatrixSpec)

/-- ITS FALSE NEIGHBOUR: 'it returns false'. Refute it at one input. -/
def fnExactIsMatrixWrong : ChangeSpec := { name := "fnExactIsMatrix", fn := fun _ => fun
  | [d] => { results := [.lit (.bool false)], args := [d] }
  | _ => none }
def FnExactIsMatrixWrongFalsely : Prop := fnExactIsMatrixRow.holds Try.pinned (OpenSpec.ofChange fnExactIsMatrixWrong)

/-- 'laws.FnExactEvacuateWord': WHATEVER THE INPUT: true; the input reads as it did. -/
def fnExactEvacuateWordSpec : ChangeSpec := { name := "fnExactEvacuateWord", fn := fun _ => fun
  | [d1, d2] => { results := [.lit (.bool true)], args := [d1, d2] }
  | _ => none }
def fnExactEvacuateWordRow : OpenClaim := { program := "ytekjnjejgefbhaa", sum := "05df30cbc3c34eba03ac0dae009cc05da5f9d48bca067c25a084c4931414bf57", func := "loop.example/g00598/laws.FnExactEvacuateWord", spec := "fnExactEvacuateWord", unfollowed := true, recurses := true, apart := false }
def FnExactEvacuateWordSaid : Prop := fnExactEvacuateWordRow.holds Try.pinned (OpenSpec.ofChange fnExactEvacuateWordSpec)

/-- ITS FALSE NEIGHBOUR: 'it returns false'. Refute it at one input. -/
def fnExactEvacuateWordWrong : ChangeSpec := { name := "fnExactEvacuateWord", fn := fun _ => fun
  | [d1, d2] => { results := [.lit (.bool false)], args := [d1, d2] }
  | _ => none }
def FnExactEvacuateWordWrongFalsely : Prop := fnExactEvacuateWordRow.holds Try.pinned (OpenSpec.ofChange fnExactEvacuateWordWrong)

/-- 'laws.FnExactInverseOf': WHATEVER THE INPUT: true; the input reads as it did. -/
def fnExactInverseOfSpec : ChangeSpec := { name := "fnExactInverseOf", fn := fun _ => fun
  | [d] => { results := [.lit (.bool true)], args := [d] }
  | _ => none }
def fnExactInverseOfRow : OpenClaim := { program := "ytekjnjejgefbhaa", sum := "05df30cbc3c34eba03ac0dae009cc05da5f9d48bca067c25a084c4931414bf57", func := "loop.example/g00598/laws.FnExactInverseOf", spec := "fnExactInverseOf", unfollowed := true, recurses := true, apart := false }
def FnExactInverseOfSaid : Prop := fnExactInverseOfRow.holds Try.pinned (OpenSpec.ofChange fnExactInverseOfSpec)

/-- ITS FALSE NEIGHBOUR: 'it returns false'. Refute it at one input. -/
def fnExactInverseOfWrong : ChangeSpec := { name := "fnExactInverseOf", fn := fun _ => fun
  | [d] => { results := [.lit (.bool false)], args := [d] }
  | _ => none }
def FnExactInverseOfWrongFalsely : Prop := fnExactInverseOfRow.holds Try.pinned (OpenSpec.ofChange fnExactInverseOfWrong)

/-- 'laws.FnExactIsInvolution': WHATEVER THE INPUT: true; the input reads as it did. -/
def fnExactIsInvolutionSpec : ChangeSpec := { name := "fnExactIsInvolution", fn := fun _ => fun
  | [d] => { results := [.lit (.bool true)], args := [d] }
  | _ => none }
def fnExactIsInvolutionRow : OpenClaim := { program := "ytekjnjejgefbhaa", sum := "05df30cbc3c34eba03ac0dae009cc05da5f9d48bca067c25a084c4931414bf57", func := "loop.example/g00598/laws.FnExactIsInvolution", spec := "fnExactIsInvolution", unfollowed := true, recurses := true, apart := false }
def FnExactIsInvolutionSaid : Prop := fnExactIsInvolutionRow.holds Try.pinned (OpenSpec.ofChange fnExactIsInvolutionSpec)

/-- ITS FALSE NEIGHBOUR: 'it returns false'. Refute it at one input. -/
def fnExactIsInvolutionWrong : ChangeSpec := { name := "fnExactIsInvolution", fn := fun _ => fun
  | [d] => { results := [.lit (.bool false)], args := [d] }
  | _ => none }
def FnExactIsInvolutionWrongFalsely : Prop := fnExactIsInvolutionRow.holds Try.pinned (OpenSpec.ofChange fnExactIsInvolutionWrong)

/-- 'laws.FnExactTurnMatrix': WHATEVER THE INPUT: true; the input reads as it did. -/
def fnExactTurnMatrixSpec : ChangeSpec := { name := "fnExactTurnMatrix", fn := fun _ => fun
  | [d] => { results := [.lit (.bool true)], args := [d] }
  | _ => none }
def fnExactTurnMatrixRow : OpenClaim := { program := "ytekjnjejgefbhaa", sum := "05df30cbc3c34eba03ac0dae009cc05da5f9d48bca067c25a084c4931414bf57", func := "loop.example/g00598/laws.FnExactTurnMatrix", spec := "fnExactTurnMatrix", unfollowed := true, recurses := true, apart := false }
def FnExactTurnMatrixSaid : Prop := fnExactTurnMatrixRow.holds Try.pinned (OpenSpec.ofChange fnExactTurnMatrixSpec)

/-- ITS FALSE NEIGHBOUR: 'it returns false'. Refute it at one input. -/
def fnExactTurnMatrixWrong : ChangeSpec := { name := "fnExactTurnMatrix", fn := fun _ => fun
  | [d] => { results := [.lit (.bool false)], args := [d] }
  | _ => none }
def FnExactTurnMatrixWrongFalsely : Prop := fnExactTurnMatrixRow.holds Try.pinned (OpenSpec.ofChange fnExactTurnMatrixWrong)

/-- 'laws.FnExactTopWord': WHATEVER THE INPUT: true; the input reads as it did. -/
def fnExactTopWordSpec : ChangeSpec := { name := "fnExactTopWord", fn := fun _ => fun
  | [d] => { results := [.lit (.bool true)], args := [d] }
  | _ => none }
def fnExactTopWordRow : OpenClaim := { program := "ytekjnjejgefbhaa", sum := "05df30cbc3c34eba03ac0dae009cc05da5f9d48bca067c25a084c4931414bf57", func := "loop.example/g00598/laws.FnExactTopWord", spec := "fnExactTopWord", unfollowed := true, recurses := true, apart := false }
def FnExactTopWordSaid : Prop := fnExactTopWordRow.holds Try.pinned (OpenSpec.ofChange fnExactTopWordSpec)

/-- ITS FALSE NEIGHBOUR: 'it returns false'. Refute it at one input. -/
def fnExactTopWordWrong : ChangeSpec := { name := "fnExactTopWord", fn := fun _ => fun
  | [d] => { results := [.lit (.bool false)], args := [d] }
  | _ => none }
def FnExactTopWordWrongFalsely : Prop := fnExactTopWordRow.holds Try.pinned (OpenSpec.ofChange fnExactTopWordWrong)

/-- 'laws.FnExactBottomWord': WHATEVER THE INPUT: true; the input reads as it did. -/
def fnExactBottomWordSpec : ChangeSpec := { name := "fnExactBottomWord", fn := fun _ => fun
  | [d] => { results := [.lit (.bool true)], args := [d] }
  | _ => none }
def fnExactBottomWordRow : OpenClaim := { program := "ytekjnjejgefbhaa", sum := "05df30cbc3c34eba03ac0dae009cc05da5f9d48bca067c25a084c4931414bf57", func := "loop.example/g00598/laws.FnExactBottomWord", spec := "fnExactBottomWord", unfollowed := true, recurses := true, apart := false }
def FnExactBottomWordSaid : Prop := fnExactBottomWordRow.holds Try.pinned (OpenSpec.ofChange fnExactBottomWordSpec)

/-- ITS FALSE NEIGHBOUR: 'it returns false'. Refute it at one input. -/
def fnExactBottomWordWrong : ChangeSpec := { name := "fnExactBottomWord", fn := fun _ => fun
  | [d] => { results := [.lit (.bool false)], args := [d] }
  | _ => none }
def FnExactBottomWordWrongFalsely : Prop := fnExactBottomWordRow.holds Try.pinned (OpenSpec.ofChange fnExactBottomWordWrong)

/-- 'laws.FnExactPairOfMatrix': WHATEVER THE INPUT: true; the input reads as it did. -/
def fnExactPairOfMatrixSpec : ChangeSpec := { name := "fnExactPairOfMatrix", fn := fun _ => fun
  | [d] => { results := [.lit (.bool true)], args := [d] }
  | _ => none }
def fnExactPairOfMatrixRow : OpenClaim := { program := "ytekjnjejgefbhaa", sum := "05df30cbc3c34eba03ac0dae009cc05da5f9d48bca067c25a084c4931414bf57", func := "loop.example/g00598/laws.FnExactPairOfMatrix", spec := "fnExactPairOfMatrix", unfollowed := true, recurses := true, apart := false }
def FnExactPairOfMatrixSaid : Prop := fnExactPairOfMatrixRow.holds Try.pinned (OpenSpec.ofChange fnExactPairOfMatrixSpec)

/-- ITS FALSE NEIGHBOUR: 'it returns false'. Refute it at one input. -/
def fnExactPairOfMatrixWrong : ChangeSpec := { name := "fnExactPairOfMatrix", fn := fun _ => fun
  | [d] => { results := [.lit (.bool false)], args := [d] }
  | _ => none }
def FnExactPairOfMatrixWrongFalsely : Prop := fnExactPairOfMatrixRow.holds Try.pinned (OpenSpec.ofChange fnExactPairOfMatrixWrong)

/- THE SECOND FORM. 'bulk': how many values and letters a reading holds, each counted each time it is reached (what is shared counts as often as it is met; a slice's spare places count too). A statement '..UptoSaid' is the law's where the arguments, and the package variables that the reading takes, are together of bulk at most 1048576: NARROWER than '..Said'. Prove '..Said' where nothing that the law and all that it calls make is longer than what came in: it says more and counts as full. Else prove '..UptoSaid'. A law counts once. -/
mutual
def uptoBulk {H : Type} : DataW H → Nat
  | .lit (.string bytes) => bytes.length + 1
  | .lit _ => 1
  | .nil => 1
  | .ptr d => uptoBulk d + 1
  | .slice elems spare => uptoBulkAll elems + uptoBulkAll spare + 1
  | .agg parts => uptoBulkAll parts + 1
  | .iface _ d => uptoBulk d + 1
  | .map entries => uptoBulkEntries entries + 1
  | .held _ => 1
def uptoBulkAll {H : Type} : List (DataW H) → Nat
  | [] => 0
  | d :: r => uptoBulk d + uptoBulkAll r
def uptoBulkEntries {H : Type} : List (Lit × DataW H) → Nat
  | [] => 0
  | x :: r => uptoBulkEntry x + uptoBulkEntries r
def uptoBulkEntry {H : Type} : Lit × DataW H → Nat
  | (.string bytes, d) => bytes.length + uptoBulk d + 1
  | (_, d) => uptoBulk d + 1
 end
def uptoSmall : (H : Type) → List (DataW H) → Bool := fun _ ds => decide (uptoBulkAll ds ≤ 1048576)
def OpenSpec.upto (s : _root_.Go.ChangeSpec) : _root_.Go.OpenSpec := { _root_.Go.OpenSpec.ofChange s with cond := some uptoSmall }

/-- 'laws.FnExactStandardizeWord', WHERE WHAT IT READS IS OF BULK AT MOST 1048576: true; the input reads as it did. -/
def fnExactStandardizeWordUptoRow : OpenClaim := { program := "ytekjnjejgefbhaa", sum := "05df30cbc3c34eba03ac0dae009cc05da5f9d48bca067c25a084c4931414bf57", func := "loop.example/g00598/laws.FnExactStandardizeWord", spec := "fnExactStandardizeWord", unfollowed := true, recurses := true, apart := false, narrowed := true }
def FnExactStandardizeWordUptoSaid : Prop := fnExactStandardizeWordUptoRow.holds Try.pinned (OpenSpec.upto fnExactStandardizeWordSpec)

/-- 'laws.FnExactIsMatrix', WHERE WHAT IT READS IS OF BULK AT MOST 1048576: true; the input reads as it did. -/
def fnExactIsMatrixUptoRow : OpenClaim := { program := "ytekjnjejgefbhaa", sum := "05df30cbc3c34eba03ac0dae009cc05da5f9d48bca067c25a084c4931414bf57", func := "loop.example/g00598/laws.FnExactIsMatrix", spec := "fnExactIsMatrix", unfollowed := true, recurses := true, apart := false, narrowed := true }
def FnExactIsMatrixUptoSaid : Prop := fnExactIsMatrixUptoRow.holds Try.pinned (OpenSpec.upto fnExactIsMatrixSpec)

/-- 'laws.FnExactEvacuateWord', WHERE WHAT IT READS IS OF BULK AT MOST 1048576: true; the input reads as it did. -/
def fnExactEvacuateWordUptoRow : OpenClaim := { program := "ytekjnjejgefbhaa", sum := "05df30cbc3c34eba03ac0dae009cc05da5f9d48bca067c25a084c4931414bf57", func := "loop.example/g00598/laws.FnExactEvacuateWord", spec := "fnExactEvacuateWord", unfollowed := true, recurses := true, apart := false, narrowed := true }
def FnExactEvacuateWordUptoSaid : Prop := fnExactEvacuateWordUptoRow.holds Try.pinned (OpenSpec.upto fnExactEvacuateWordSpec)

/-- 'laws.FnExactInverseOf', WHERE WHAT IT READS IS OF BULK AT MOST 1048576: true; the input reads as it did. -/
def fnExactInverseOfUptoRow : OpenClaim := { program := "ytekjnjejgefbhaa", sum := "05df30cbc3c34eba03ac0dae009cc05da5f9d48bca067c25a084c4931414bf57", func := "loop.example/g00598/laws.FnExactInverseOf", spec := "fnExactInverseOf", unfollowed := true, recurses := true, apart := false, narrowed := true }
def FnExactInverseOfUptoSaid : Prop := fnExactInverseOfUptoRow.holds Try.pinned (OpenSpec.upto fnExactInverseOfSpec)

/-- 'laws.FnExactIsInvolution', WHERE WHAT IT READS IS OF BULK AT MOST 1048576: true; the input reads as it did. -/
def fnExactIsInvolutionUptoRow : OpenClaim := { program := "ytekjnjejgefbhaa", sum := "05df30cbc3c34eba03ac0dae009cc05da5f9d48bca067c25a084c4931414bf57", func := "loop.example/g00598/laws.FnExactIsInvolution", spec := "fnExactIsInvolution", unfollowed := true, recurses := true, apart := false, narrowed := true }
def FnExactIsInvolutionUptoSaid : Prop := fnExactIsInvolutionUptoRow.holds Try.pinned (OpenSpec.upto fnExactIsInvolutionSpec)

/-- 'laws.FnExactTurnMatrix', WHERE WHAT IT READS IS OF BULK AT MOST 1048576: true; the input reads as it did. -/
def fnExactTurnMatrixUptoRow : OpenClaim := { program := "ytekjnjejgefbhaa", sum := "05df30cbc3c34eba03ac0dae009cc05da5f9d48bca067c25a084c4931414bf57", func := "loop.example/g00598/laws.FnExactTurnMatrix", spec := "fnExactTurnMatrix", unfollowed := true, recurses := true, apart := false, narrowed := true }
def FnExactTurnMatrixUptoSaid : Prop := fnExactTurnMatrixUptoRow.holds Try.pinned (OpenSpec.upto fnExactTurnMatrixSpec)

/-- 'laws.FnExactTopWord', WHERE WHAT IT READS IS OF BULK AT MOST 1048576: true; the input reads as it did. -/
def fnExactTopWordUptoRow : OpenClaim := { program := "ytekjnjejgefbhaa", sum := "05df30cbc3c34eba03ac0dae009cc05da5f9d48bca067c25a084c4931414bf57", func := "loop.example/g00598/laws.FnExactTopWord", spec := "fnExactTopWord", unfollowed := true, recurses := true, apart := false, narrowed := true }
def FnExactTopWordUptoSaid : Prop := fnExactTopWordUptoRow.holds Try.pinned (OpenSpec.upto fnExactTopWordSpec)

/-- 'laws.FnExactBottomWord', WHERE WHAT IT READS IS OF BULK AT MOST 1048576: true; the input reads as it did. -/
def fnExactBottomWordUptoRow : OpenClaim := { program := "ytekjnjejgefbhaa", sum := "05df30cbc3c34eba03ac0dae009cc05da5f9d48bca067c25a084c4931414bf57", func := "loop.example/g00598/laws.FnExactBottomWord", spec := "fnExactBottomWord", unfollowed := true, recurses := true, apart := false, narrowed := true }
def FnExactBottomWordUptoSaid : Prop := fnExactBottomWordUptoRow.holds Try.pinned (OpenSpec.upto fnExactBottomWordSpec)

/-- 'laws.FnExactPairOfMatrix', WHERE WHAT IT READS IS OF BULK AT MOST 1048576: true; the input reads as it did. -/
def fnExactPairOfMatrixUptoRow : OpenClaim := { program := "ytekjnjejgefbhaa", sum := "05df30cbc3c34eba03ac0dae009cc05da5f9d48bca067c25a084c4931414bf57", func := "loop.example/g00598/laws.FnExactPairOfMatrix", spec := "fnExactPairOfMatrix", unfollowed := true, recurses := true, apart := false, narrowed := true }
def FnExactPairOfMatrixUptoSaid : Prop := fnExactPairOfMatrixUptoRow.holds Try.pinned (OpenSpec.upto fnExactPairOfMatrixSpec)

end Rows
end Go.Proofs.Ytekjnjejgefbhaa
