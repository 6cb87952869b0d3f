/- slices.SortFunc over points, by the shelf's contract laid over this program. -/
import Derived.Shelf.Lay
import Derived.Shelf.LaySoft
import Derived.Shelf.SlSortCmp.NoneTotal
import Derived.Ground.SlsfProg
import Derived.Test.YtfopmaiednikhaaDoorProg
namespace Go.Proofs.YtfopmaiednikhaaDoorOwn
open Go.Shelf Go.Proofs Go.RowKit Go.Sort
set_option linter.unusedVariables false
set_option linter.unusedSimpArgs false
shelf_lay_g SlLaysF0.n6 Slsf 6 at Tryd 59 as rg6
end Go.Proofs.YtfopmaiednikhaaDoorOwn
