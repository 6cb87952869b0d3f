-- out of the printed words: what this claim's texts name
import Derived.SizedLaws
import Derived.ChangeSlices
namespace Go.Proofs.YtlmnmakkojgfnaaGreatDoorW.PrintWords
open Go.ChangeShapes Go.WideShapes
end Go.Proofs.YtlmnmakkojgfnaaGreatDoorW.PrintWords
