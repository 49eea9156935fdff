import Derived.Test.YtdcdndfgdmcomaaWInv
import Derived.Test.YtdcdndfgdmcomaaWFootNe
namespace Go.Proofs.YtdcdndfgdmcomaaW.PrintWords
open Go.RowKit
end Go.Proofs.YtdcdndfgdmcomaaW.PrintWords
namespace Go.Proofs.YtdcdndfgdmcomaaW.PrintLast
section
variable {ops : Array Oper} {a : Act} {o og : Oper} {g : Nat} {t : Tmp} {u : Bool}
end
end Go.Proofs.YtdcdndfgdmcomaaW.PrintLast
