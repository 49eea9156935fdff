import Derived.SizedLaws
import Derived.ChangeSlices
namespace Go.Proofs.YtdcdndfgdmcomaaW.PrintWords
open Go.ChangeShapes Go.WideShapes
end Go.Proofs.YtdcdndfgdmcomaaW.PrintWords
