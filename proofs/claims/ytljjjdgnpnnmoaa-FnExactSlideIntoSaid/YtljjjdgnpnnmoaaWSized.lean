import Derived.SizedLaws
import Derived.ChangeSlices
namespace Go.Proofs.YtljjjdgnpnnmoaaW.PrintWords
open Go.ChangeShapes Go.WideShapes
end Go.Proofs.YtljjjdgnpnnmoaaW.PrintWords
