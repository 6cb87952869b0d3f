/- strconv.Itoa below 100 and slices.SortFunc over points, by the shelf's contracts laid over this program. -/
import Derived.Shelf.Lay
import Derived.Shelf.LaySoft
import Derived.Shelf.Strconv.Itoa3
import Derived.Shelf.SlSortCmp.NoneTotal
import Derived.Laws.EntriesVeiled
import Derived.Lib.OwnBridge
import Derived.Lib.AppendIntMem
import Derived.Ground.SlsfProg
import Derived.Test.YtapnfghkfjkinaaDoorProg
namespace Go.Proofs.YtapnfghkfjkinaaDoorOwn
open Go.Shelf Go.Proofs Go.RowKit Go.Sort
set_option linter.unusedVariables false
set_option linter.unusedSimpArgs false
shelf_lay Lays.n171 Nm 171 at Tryd as rk171
shelf_lay_g SlLaysF0.n6 Slsf 6 at Tryd 17 as rg6
theorem rkItoa (i : Nat) (hi : i < 100) (w : World) : Calls Tryd.prog 16 #[.int .i64 i] w fun e w' => e = .returned (.string ⟨(Lib.decDigits i).toArray⟩) ∧ w' = w :=
  Any.strconv_Itoa_small rk171 i hi w
end Go.Proofs.YtapnfghkfjkinaaDoorOwn
