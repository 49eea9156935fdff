import Derived.Test.YtljjjdgnpnnmoaaWInv
import Derived.Test.YtljjjdgnpnnmoaaWFootNe
namespace Go.Proofs.YtljjjdgnpnnmoaaW.PrintWords
open Go.RowKit
end Go.Proofs.YtljjjdgnpnnmoaaW.PrintWords
namespace Go.Proofs.YtljjjdgnpnnmoaaW.PrintLast
section
variable {ops : Array Oper} {a : Act} {o og : Oper} {g : Nat} {t : Tmp} {u : Bool}
end
end Go.Proofs.YtljjjdgnpnnmoaaW.PrintLast
