-- out of the printed words: what this claim's texts name
import Derived.SizedLaws
import Derived.ChangeSlices
namespace Go.Proofs.YtfopmaiednikhaaDoorW.PrintWords
open Go.ChangeShapes Go.WideShapes
end Go.Proofs.YtfopmaiednikhaaDoorW.PrintWords
