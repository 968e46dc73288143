import Derived.SizedLaws
import Derived.ChangeSlices
namespace Go.Proofs.YtljppmpigijgaaaDoorW.PrintWords
open Go.ChangeShapes Go.WideShapes
end Go.Proofs.YtljppmpigijgaaaDoorW.PrintWords
