import Derived.SizedLaws
import Derived.ChangeSlices
namespace Go.Proofs.YtdoghjmanogelaaW.PrintWords
open Go.ChangeShapes Go.WideShapes
end Go.Proofs.YtdoghjmanogelaaW.PrintWords
