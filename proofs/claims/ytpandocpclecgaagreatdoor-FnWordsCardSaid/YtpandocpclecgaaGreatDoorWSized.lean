import Derived.SizedLaws
import Derived.ChangeSlices
namespace Go.Proofs.YtpandocpclecgaaGreatDoorW.PrintWords
open Go.ChangeShapes Go.WideShapes
end Go.Proofs.YtpandocpclecgaaGreatDoorW.PrintWords
