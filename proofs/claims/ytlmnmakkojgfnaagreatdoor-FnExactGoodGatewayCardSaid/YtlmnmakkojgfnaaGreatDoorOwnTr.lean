/- strings.IndexByte, Index, Cut, Split, Trim, strconv.Atoi, strconv.Itoa by the shelf's contracts, laid over this program; what they ask of the world as one fact. -/
import Derived.Shelf.Lay
import Derived.Shelf.LaySoft
import Derived.Shelf.Small.Strs
import Derived.Shelf.Small.Wraps
import Derived.Shelf.Strings.Prefix
import Derived.Shelf.Strings.SlTrimAscii
import Derived.Shelf.Strconv.ErrVarAll
import Derived.Shelf.Strconv.Itoa3
import Derived.Lib.SmallJoins
import Derived.BigCall
import Derived.Test.YtlmnmakkojgfnaaGreatDoorProg
namespace Go.Proofs.YtlmnmakkojgfnaaGreatDoorOwn
open Go.Shelf Go.Proofs Go.RowKit Go.Sort
set_option linter.unusedVariables false
shelf_lay Lays.n137 Nm 137 at Tryz as tr137
shelf_lay Lays.n160 Nm 160 at Tryz as tr160
shelf_lay LaysC.n172 Nm 172 at Tryz as tr172
shelf_lay LaysM.n171 Nm 171 at Tryz as tr171
shelf_lay Lays.n99 Nm 99 at Tryz as tr99
/-- What the library's functions ask of the world. -/
structure Glob (w : World) : Prop where
  ml : ∃ m, w.cell? ⟨0, 0, none⟩ = some (.int .i64 m)
  es : ∃ tp p, w.var? Tryz.prog "strconv.ErrSyntax" = some #[.iface tp p]
  er : ∃ tp p, w.var? Tryz.prog "strconv.ErrRange" = some #[.iface tp p]
  tb : Lib.TabIs Tryz.prog w "internal/strconv.uint64pow10" .u64 Lib.pow10Tab
theorem Glob.go {w w' : World} (h : Glob w) {B : Nat} (hb : Below B w w') (hB : w.heap.size ≤ B) : Glob w' := by
  obtain ⟨⟨m, hm⟩, ⟨t1, p1, h1⟩, ⟨t2, p2, h2⟩, h3⟩ := h
  refine ⟨⟨m, ?_⟩, ⟨t1, p1, Go.Joins.var_stays (g := 4) (by kernel_rfl) h1 hb hB⟩, ⟨t2, p2, Go.Joins.var_stays (g := 5) (by kernel_rfl) h2 hb hB⟩, Go.Joins.tab_stays (g := 1) (by kernel_rfl) h3 hb hB⟩
  have hlt : 0 < w.heap.size := by
    rcases Nat.lt_or_ge 0 w.heap.size with h' | h'
    · exact h'
    · simp [World.cell?, Array.getElem?_eq_none h'] at hm
  exact (hb.cell (p := ⟨0, 0, none⟩) (show 0 < B by omega)).trans hm
theorem globg {w w' : World} (h : Glob w) (hb : Below w.heap.size w w') : Glob w' := h.go hb (Nat.le_refl _)
theorem below_drewN_ (w : World) (n : Nat) : Below w.heap.size w (w.drewN n) := ⟨rfl, rfl, rfl, Nat.le_refl _, fun _ _ => rfl⟩
theorem trIndexByte (s : ByteArray) (c : Int) (w : World) : Calls Tryz.prog 127 #[.string s, .int .u8 c] w fun e w' => e = .returned (.int .i64 (Lib.indexByte s.data.toList c.toNat.toUInt8)) ∧ Below w.heap.size w w' := by
  refine (Any.strings_IndexByte tr137 s c w).mono ?_
  rintro e w' ⟨rfl, rfl⟩
  exact ⟨rfl, Below.refl _ _⟩
theorem trTrim (s cutset : ByteArray) (w : World) (hs : s.size ≤ 9223372036854775807) (hcs : cutset.size < 4294967281) (hascii : ∀ (j : Nat) b, cutset.data.toList[j]? = some b → b.toNat < 128) :
    Calls Tryz.prog 177 #[.string s, .string cutset] w fun e w' => e = .returned (.string ⟨(Lib.trimS s.data.toList cutset.data.toList).toArray⟩) ∧ Below w.heap.size w w' :=
  Any.strings_Trim_laid tr160 (by kernel_rfl) s cutset w hs hcs hascii
theorem trHasPrefix (s p : ByteArray) (w : World) : Calls Tryz.prog 82 #[.string s, .string p] w fun e w' => e = .returned (.bool (Lib.hasPrefix s.data.toList p.data.toList)) ∧ Below w.heap.size w w' := by
  refine (Any.strings_HasPrefix tr99 s p w).mono ?_
  rintro e w' ⟨rfl, rfl⟩
  exact ⟨rfl, Below.refl _ _⟩
theorem below_grow_drew (w : World) (k : Nat) (os : Array Obj) : Below w.heap.size w (grow (w.drewN k) os) :=
  ⟨rfl, rfl, rfl, by show w.heap.size ≤ (w.heap ++ os).size; rw [Array.size_append]; omega, fun j hj => (heap_grow_old (w.drewN k) os hj).trans rfl⟩
theorem trItoa (n : Int) (h0 : -9223372036854775808 ≤ n) (h1 : n ≤ 9223372036854775807) (w : World) (G : Glob w) : Calls Tryz.prog 130 #[.int .i64 n] w fun e w' => e = .returned (.string ⟨(Lib.itoa n).toArray⟩) ∧ Below w.heap.size w w' := by
  refine (Any.strconv_Itoa tr171 n h0 h1 w G.tb).mono ?_
  rintro e w' ⟨rfl, k, os, rfl⟩
  exact ⟨rfl, below_grow_drew w k os⟩
/-- strconv.Atoi: its number, whether it failed; the error's value. -/
def atoiN (s : ByteArray) : Int := match Lib.atoiAll s.data.toList with
  | .ok v => v
  | .range => Lib.atoiSat s.data.toList
  | _ => 0
def atoiF (s : ByteArray) : Bool := match Lib.atoiAll s.data.toList with
  | .ok _ => false
  | _ => true
def atE (tp : TypeId) (p : Value) : Bool → Value
  | true => .iface tp p
  | false => .nilIface
theorem atE_true (tp : TypeId) (p : Value) : atE tp p true = .iface tp p := rfl
theorem atE_false (tp : TypeId) (p : Value) : atE tp p false = .nilIface := rfl
theorem trAtoi (s : ByteArray) (w : World) (hs : s.size ≤ 281474976710656) (G : Glob w) :
    Calls Tryz.prog 218 #[.string s] w fun e w' => ∃ tp p, e = .returned (.tuple #[.int .i64 (atoiN s), atE tp p (atoiF s)]) ∧ Below w.heap.size w w' := by
  obtain ⟨t1, p1, h1⟩ := G.es
  obtain ⟨t2, p2, h2⟩ := G.er
  unfold atoiN atoiF
  rcases h : Lib.atoiAll s.data.toList with v | _ | _
  · refine (Any.strconv_Atoi_ok tr172 s (by omega) v h w).mono ?_
    rintro e w' ⟨rfl, rfl | ⟨t, rfl⟩⟩
    · exact ⟨0, .nilIface, rfl, Below.refl _ _⟩
    · exact ⟨0, .nilIface, rfl, ⟨rfl, rfl, rfl, by rw [Lib.bytesWorld_size]; omega, fun i hi => Lib.bytesWorld_at_old w _ t i hi⟩⟩
  · refine (Any.strconv_Atoi_syntax_var tr172 s hs h t1 p1 w h1).mono ?_
    rintro e w' ⟨N, rfl, _, _, hb⟩
    exact ⟨_, _, rfl, hb⟩
  · refine (Any.strconv_Atoi_range_var tr172 s hs h t2 p2 w h2).mono ?_
    rintro e w' ⟨N, rfl, _, _, hb⟩
    exact ⟨_, _, rfl, hb⟩
end Go.Proofs.YtlmnmakkojgfnaaGreatDoorOwn
