import Derived.Test.YtpandocpclecgaaGreatDoorWInv
import Derived.Test.YtpandocpclecgaaGreatDoorWFootNe
namespace Go.Proofs.YtpandocpclecgaaGreatDoorW.PrintWords
open Go.RowKit
end Go.Proofs.YtpandocpclecgaaGreatDoorW.PrintWords
namespace Go.Proofs.YtpandocpclecgaaGreatDoorW.PrintLast
section
variable {ops : Array Oper} {a : Act} {o og : Oper} {g : Nat} {t : Tmp} {u : Bool}
end
end Go.Proofs.YtpandocpclecgaaGreatDoorW.PrintLast
