import Derived.SizedLaws
import Derived.ChangeSlices
namespace Go.Proofs.YtgaackedappmgaaDoorW.PrintWords
open Go.ChangeShapes Go.WideShapes
end Go.Proofs.YtgaackedappmgaaDoorW.PrintWords
