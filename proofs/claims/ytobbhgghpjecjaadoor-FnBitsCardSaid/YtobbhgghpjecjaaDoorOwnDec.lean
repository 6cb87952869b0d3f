/- strings.Trim and strings.HasPrefix by the shelf's contracts, laid over this program. -/
import Derived.Shelf.Lay
import Derived.Shelf.LaySoft
import Derived.Shelf.Strings.SlTrimAscii
import Derived.Shelf.Strings.Prefix
import Derived.Test.YtobbhgghpjecjaaDoorProg
namespace Go.Proofs.YtobbhgghpjecjaaDoorOwn
open Go.Shelf Go.Proofs Go.RowKit
shelf_lay Lays.n160 Nm 160 at Tryd as dec160
shelf_lay Lays.n99 Nm 99 at Tryd as dec99
theorem decTrim (s cutset : ByteArray) (w : World) (hs : s.size ≤ 9223372036854775807) (hcs : cutset.size < 4294967281) (hascii : ∀ (j : Nat) b, cutset.data.toList[j]? = some b → b.toNat < 128) :
    Calls Tryd.prog 48 #[.string s, .string cutset] w fun e w' => e = .returned (.string ⟨(Lib.trimS s.data.toList cutset.data.toList).toArray⟩) ∧ Below w.heap.size w w' :=
  Any.strings_Trim_laid dec160 (by kernel_rfl) s cutset w hs hcs hascii
theorem decPrefix (s p : ByteArray) (w : World) :
    Calls Tryd.prog 29 #[.string s, .string p] w fun e w' => e = .returned (.bool (Lib.hasPrefix s.data.toList p.data.toList)) ∧ w' = w :=
  Any.strings_HasPrefix dec99 s p w
end Go.Proofs.YtobbhgghpjecjaaDoorOwn
