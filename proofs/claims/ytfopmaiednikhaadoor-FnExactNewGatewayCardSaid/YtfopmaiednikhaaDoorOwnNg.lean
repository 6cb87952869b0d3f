/- strings.IndexByte, strings.HasPrefix and strconv.Itoa by the shelf's contracts, laid over this program. -/
import Derived.Shelf.Lay
import Derived.Shelf.LaySoft
import Derived.Shelf.Small.Strs
import Derived.Shelf.Strings.Prefix
import Derived.Shelf.Strconv.Itoa3
import Derived.Lib.SmallJoins
import Derived.BigCall
import Derived.Test.YtfopmaiednikhaaDoorProg
namespace Go.Proofs.YtfopmaiednikhaaDoorOwn
open Go.Shelf Go.Proofs Go.RowKit Go.Sort
set_option linter.unusedVariables false
shelf_lay Lays.n137 Nm 137 at Tryd as ng137
shelf_lay Lays.n99 Nm 99 at Tryd as ng99
shelf_lay LaysM.n171 Nm 171 at Tryd as ng171
theorem ngIndex (s : ByteArray) (c : Int) (w : World) : Calls Tryd.prog 121 #[.string s, .int .u8 c] w fun e w' => e = .returned (.int .i64 (Lib.indexByte s.data.toList c.toNat.toUInt8)) ∧ w' = w :=
  Any.strings_IndexByte ng137 s c w
theorem ngPrefix (s p : ByteArray) (w : World) : Calls Tryd.prog 89 #[.string s, .string p] w fun e w' => e = .returned (.bool (Lib.hasPrefix s.data.toList p.data.toList)) ∧ w' = w :=
  Any.strings_HasPrefix ng99 s p w
/-- The table of the powers of ten lies as the library lays it. -/
def Tab10 (w : World) : Prop := Lib.TabIs Tryd.prog w "internal/strconv.uint64pow10" .u64 Lib.pow10Tab
theorem Tab10.go {w w' : World} (h : Tab10 w) {B : Nat} (hb : Below B w w') (hB : w.heap.size ≤ B) : Tab10 w' := Go.Joins.tab_stays (g := 0) (by kernel_rfl) h hb hB
theorem below_grow_drew (w : World) (k : Nat) (os : Array Obj) : Below w.heap.size w (grow (w.drewN k) os) :=
  ⟨rfl, rfl, rfl, by show w.heap.size ≤ (w.heap ++ os).size; rw [Array.size_append]; omega, fun j hj => (heap_grow_old (w.drewN k) os hj).trans rfl⟩
theorem ngItoa (n : Int) (h0 : 0 ≤ n) (h1 : n ≤ 65535) (w : World) (ht : Tab10 w) : Calls Tryd.prog 58 #[.int .i64 n] w fun e w' => e = .returned (.string ⟨(Lib.itoa n).toArray⟩) ∧ Below w.heap.size w w' := by
  refine (Any.strconv_Itoa ng171 n (by omega) (by omega) w ht).mono ?_
  rintro e w' ⟨rfl, k, os, rfl⟩
  exact ⟨rfl, below_grow_drew w k os⟩
end Go.Proofs.YtfopmaiednikhaaDoorOwn
