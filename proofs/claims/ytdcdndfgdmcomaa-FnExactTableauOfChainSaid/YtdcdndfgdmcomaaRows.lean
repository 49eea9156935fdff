/-
  No cell of these rows narrows 'for every input' (looked for: loops, veiled, ifaces, maps, wideKeys, modest, calm, conditions, laid).
  DERIVED. THE GIVEN ROWS OF THIS SEAT. 4 by the template 'for every input the law returns true; each argument reads behind the call as it read before'; 0 by the template 'total and deterministic' (their statements: YtdcdndfgdmcomaaTotals.lean).
  GIVEN WITH THE SEED: the statements are not yours to turn. If you find one false, say at which input.
  Laid BY PROGRAM, IN A SANDBOX (cutbox-rows.mjs): the forced cells as the released guide's own fill.sh prints them over the translation 91a038e5511f57b0… (all of the seat's roots in one cut). By AI agents, Wed Nov 11 2026. No macro, syntax, notation, axiom, sorry.
-/
import Derived.Test.YtdcdndfgdmcomaaChecked
import GoSem.Claim
import GoSem.ClaimJoined
import GoSem.ClaimMapViews
import Derived.JoinedTies
import Derived.KernelRfl
namespace Go.Proofs.Ytdcdndfgdmcomaa
/- THE CELL 'sum', in the pinned program and in every row, IS THE sha256 OF THE DUMP (.gsa) THAT YtdcdndfgdmcomaaProg.lean LOADS. Nothing in Lean hashes anything: it is a label: what it is worth is what the hold of that sum in a sandbox is worth. -/
noncomputable def Try.pinned : Pinned := { name := "ytdcdndfgdmcomaa", sum := "91a038e5511f57b0c104e7757092273de76908d885ff2be41c6d1206fd424a59", checked := Try.checked }
namespace Rows
def none {H : Type} : Left H := { results := [], args := [] }

/-- 'laws.FnExactTableauOfChain': WHATEVER THE INPUT: true; the input reads as it did. -/
def fnExactTableauOfChainSpec : ChangeSpec := { name := "fnExactTableauOfChain", fn := fun _ => fun
  | [d] => { results := [.lit (.bool true)], args := [d] }
  | _ => none }
def fnExactTableauOfChainRow : OpenClaim := { program := "ytdcdndfgdmcomaa", sum := "91a038e5511f57b0c104e7757092273de76908d885ff2be41c6d1206fd424a59", func := "loop.example/g00598/laws.FnExactTableauOfChain", spec := "fnExactTableauOfChain", unfollowed := true, recurses := true, apart := false }
def FnExactTableauOfChainSaid : Prop := fnExactTableauOfChainRow.holds Try.pinned (OpenSpec.ofChange fnExactTableauOfChainSpec)

/-- ITS FALSE NEIGHBOUR: 'it returns false'. Refute it at one input. -/
def fnExactTableauOfChainWrong : ChangeSpec := { name := "fnExactTableauOfChain", fn := fun _ => fun
  | [d] => { results := [.lit (.bool false)], args := [d] }
  | _ => none }
def FnExactTableauOfChainWrongFalsely : Prop := fnExactTableauOfChainRow.holds Try.pinned (OpenSpec.ofChange fnExactTableauOfChainWrong)

/-- 'laws.FnExactDescentsOf': WHATEVER THE INPUT: true; the input reads as it did. -/
def fnExactDescentsOfSpec : ChangeSpec := { name := "fnExactDescentsOf", fn := fun _ => fun
  | [d] => { results := [.lit (.bool true)], args := [d] }
  | _ => none }
def fnExactDescentsOfRow : OpenClaim := { program := "ytdcdndfgdmcomaa", sum := "91a038e5511f57b0c104e7757092273de76908d885ff2be41c6d1206fd424a59", func := "loop.example/g00598/laws.FnExactDescentsOf", spec := "fnExactDescentsOf", unfollowed := true, recurses := true, apart := false }
def FnExactDescentsOfSaid : Prop := fnExactDescentsOfRow.holds Try.pinned (OpenSpec.ofChange fnExactDescentsOfSpec)

/-- ITS FALSE NEIGHBOUR: 'it returns false'. Refute it at one input. -/
def fnExactDescentsOfWrong : ChangeSpec := { name := "fnExactDescentsOf", fn := fun _ => fun
  | [d] => { results := [.lit (.bool false)], args := [d] }
  | _ => none }
def FnExactDescentsOfWrongFalsely : Prop := fnExactDescentsOfRow.holds Try.pinned (OpenSpec.ofChange fnExactDescentsOfWrong)

/-- 'laws.FnExactChainOf': WHATEVER THE INPUT: true; the input reads as it did. -/
def fnExactChainOfSpec : ChangeSpec := { name := "fnExactChainOf", fn := fun _ => fun
  | [d] => { results := [.lit (.bool true)], args := [d] }
  | _ => none }
def fnExactChainOfRow : OpenClaim := { program := "ytdcdndfgdmcomaa", sum := "91a038e5511f57b0c104e7757092273de76908d885ff2be41c6d1206fd424a59", func := "loop.example/g00598/laws.FnExactChainOf", spec := "fnExactChainOf", apart := false }
def FnExactChainOfSaid : Prop := fnExactChainOfRow.holds Try.pinned (OpenSpec.ofChange fnExactChainOfSpec)

/-- ITS FALSE NEIGHBOUR: 'it returns false'. Refute it at one input. -/
def fnExactChainOfWrong : ChangeSpec := { name := "fnExactChainOf", fn := fun _ => fun
  | [d] => { results := [.lit (.bool false)], args := [d] }
  | _ => none }
def FnExactChainOfWrongFalsely : Prop := fnExactChainOfRow.holds Try.pinned (OpenSpec.ofChange fnExactChainOfWrong)

/-- 'laws.FnExactIsCompatible': WHATEVER THE INPUT: true; the input reads as it did. -/
def fnExactIsCompatibleSpec : ChangeSpec := { name := "fnExactIsCompatible", fn := fun _ => fun
  | [d1, d2] => { results := [.lit (.bool true)], args := [d1, d2] }
  | _ => none }
def fnExactIsCompatibleRow : OpenClaim := { program := "ytdcdndfgdmcomaa", sum := "91a038e5511f57b0c104e7757092273de76908d885ff2be41c6d1206fd424a59", func := "loop.example/g00598/laws.FnExactIsCompatible", spec := "fnExactIsCompatible", unfollowed := true, recurses := true, apart := false }
def FnExactIsCompatibleSaid : Prop := fnExactIsCompatibleRow.holds Try.pinned (OpenSpec.ofChange fnExactIsCompatibleSpec)

/-- ITS FALSE NEIGHBOUR: 'it returns false'. Refute it at one input. -/
def fnExactIsCompatibleWrong : ChangeSpec := { name := "fnExactIsCompatible", fn := fun _ => fun
  | [d1, d2] => { results := [.lit (.bool false)], args := [d1, d2] }
  | _ => none }
def FnExactIsCompatibleWrongFalsely : Prop := fnExactIsCompatibleRow.holds Try.pinned (OpenSpec.ofChange fnExactIsCompatibleWrong)

/- THE SECOND FORM. 'bulk': how many values and letters a reading holds, each counted each time it is reached (what is shared counts as often as it is met; a slice's spare places count too). A statement '..UptoSaid' is the law's where the arguments, and the package variables that the reading takes, are together of bulk at most 1048576: NARROWER than '..Said'. Prove '..Said' where nothing that the law and all that it calls make is longer than what came in: it says more and counts as full. Else prove '..UptoSaid'. A law counts once. -/
mutual
def uptoBulk {H : Type} : DataW H → Nat
  | .lit (.string bytes) => bytes.length + 1
  | .lit _ => 1
  | .nil => 1
  | .ptr d => uptoBulk d + 1
  | .slice elems spare => uptoBulkAll elems + uptoBulkAll spare + 1
  | .agg parts => uptoBulkAll parts + 1
  | .iface _ d => uptoBulk d + 1
  | .map entries => uptoBulkEntries entries + 1
  | .held _ => 1
def uptoBulkAll {H : Type} : List (DataW H) → Nat
  | [] => 0
  | d :: r => uptoBulk d + uptoBulkAll r
def uptoBulkEntries {H : Type} : List (Lit × DataW H) → Nat
  | [] => 0
  | x :: r => uptoBulkEntry x + uptoBulkEntries r
def uptoBulkEntry {H : Type} : Lit × DataW H → Nat
  | (.string bytes, d) => bytes.length + uptoBulk d + 1
  | (_, d) => uptoBulk d + 1
 end
def uptoSmall : (H : Type) → List (DataW H) → Bool := fun _ ds => decide (uptoBulkAll ds ≤ 1048576)
def OpenSpec.upto (s : _root_.Go.ChangeSpec) : _root_.Go.OpenSpec := { _root_.Go.OpenSpec.ofChange s with cond := some uptoSmall }

/-- 'laws.FnExactTableauOfChain', WHERE WHAT IT READS IS OF BULK AT MOST 1048576: true; the input reads as it did. -/
def fnExactTableauOfChainUptoRow : OpenClaim := { program := "ytdcdndfgdmcomaa", sum := "91a038e5511f57b0c104e7757092273de76908d885ff2be41c6d1206fd424a59", func := "loop.example/g00598/laws.FnExactTableauOfChain", spec := "fnExactTableauOfChain", unfollowed := true, recurses := true, apart := false, narrowed := true }
def FnExactTableauOfChainUptoSaid : Prop := fnExactTableauOfChainUptoRow.holds Try.pinned (OpenSpec.upto fnExactTableauOfChainSpec)

/-- 'laws.FnExactDescentsOf', WHERE WHAT IT READS IS OF BULK AT MOST 1048576: true; the input reads as it did. -/
def fnExactDescentsOfUptoRow : OpenClaim := { program := "ytdcdndfgdmcomaa", sum := "91a038e5511f57b0c104e7757092273de76908d885ff2be41c6d1206fd424a59", func := "loop.example/g00598/laws.FnExactDescentsOf", spec := "fnExactDescentsOf", unfollowed := true, recurses := true, apart := false, narrowed := true }
def FnExactDescentsOfUptoSaid : Prop := fnExactDescentsOfUptoRow.holds Try.pinned (OpenSpec.upto fnExactDescentsOfSpec)

/-- 'laws.FnExactChainOf', WHERE WHAT IT READS IS OF BULK AT MOST 1048576: true; the input reads as it did. -/
def fnExactChainOfUptoRow : OpenClaim := { program := "ytdcdndfgdmcomaa", sum := "91a038e5511f57b0c104e7757092273de76908d885ff2be41c6d1206fd424a59", func := "loop.example/g00598/laws.FnExactChainOf", spec := "fnExactChainOf", apart := false, narrowed := true }
def FnExactChainOfUptoSaid : Prop := fnExactChainOfUptoRow.holds Try.pinned (OpenSpec.upto fnExactChainOfSpec)

/-- 'laws.FnExactIsCompatible', WHERE WHAT IT READS IS OF BULK AT MOST 1048576: true; the input reads as it did. -/
def fnExactIsCompatibleUptoRow : OpenClaim := { program := "ytdcdndfgdmcomaa", sum := "91a038e5511f57b0c104e7757092273de76908d885ff2be41c6d1206fd424a59", func := "loop.example/g00598/laws.FnExactIsCompatible", spec := "fnExactIsCompatible", unfollowed := true, recurses := true, apart := false, narrowed := true }
def FnExactIsCompatibleUptoSaid : Prop := fnExactIsCompatibleUptoRow.holds Try.pinned (OpenSpec.upto fnExactIsCompatibleSpec)

end Rows
end Go.Proofs.Ytdcdndfgdmcomaa
