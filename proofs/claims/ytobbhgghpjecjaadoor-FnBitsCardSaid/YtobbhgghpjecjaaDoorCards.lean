/-
  DERIVED. GIVEN WITH THE SEED: THE CARDS: each row of YtobbhgghpjecjaaDoorRows.lean that lists a variable, with what it lists TIED to the program's text (the seventh form; the later family's looks); each row that meets fmt, with fmt's text TOLD by the authors' own Lean function (tested against real Go, not proved from fmt's source: count such statements apart). THE CARD IS WHAT COUNTS. Prove the row's statement (the work); the ties are given (YtobbhgghpjecjaaDoorTie.lean); close each card by the builder's one call (the guide's Derived/Test/ToyasCard.lean, 'card_holds'). Laid BY PROGRAM, IN A SANDBOX (cutbox-door.mjs). By AI agents, Wed Nov 11 2026. No macro, syntax, notation, axiom, sorry.
-/
import Derived.Test.YtobbhgghpjecjaaDoorRows
import GoSem.ClaimSeven
namespace Go.Proofs.YtobbhgghpjecjaaDoor
namespace Rows

/-- THE TIED CARD OF 'laws.FnExactDecodeBits'. -/
def fnExactDecodeBitsCard : Claim7 := { stood := { row := fnExactDecodeBitsRow, standIns := [], harness := (true, "20ac87ab62f0e10a999f602ff03491eb01941a50828c777f4412f11465b9fdd4"), looks := false }, kinds := [], alts := [], laidByText := true, laidKinds := [.data, .pinned], laidTests := true, laidLooks := .later }
def FnExactDecodeBitsCardSaid : Prop := Claim7.holds Tryd.pinned (.plain (OpenSpec.ofChange fnExactDecodeBitsSpec)) fnExactDecodeBitsCard

/-- THE TIED CARD OF 'laws.FnExactPackBits'. -/
def fnExactPackBitsCard : Claim7 := { stood := { row := fnExactPackBitsRow, standIns := [], harness := (true, "20ac87ab62f0e10a999f602ff03491eb01941a50828c777f4412f11465b9fdd4"), looks := false }, kinds := [], alts := [], laidByText := true, laidKinds := [.data, .pinned], laidTests := true, laidLooks := .later }
def FnExactPackBitsCardSaid : Prop := Claim7.holds Tryd.pinned (.plain (OpenSpec.ofChange fnExactPackBitsSpec)) fnExactPackBitsCard

/-- THE TIED CARD OF 'laws.FnBits'. -/
def fnBitsCard : Claim7 := { stood := { row := fnBitsRow, standIns := [], harness := (true, "20ac87ab62f0e10a999f602ff03491eb01941a50828c777f4412f11465b9fdd4"), looks := false }, kinds := [], alts := [], laidByText := true, laidKinds := [.data, .pinned], laidTests := true, laidLooks := .later }
def FnBitsCardSaid : Prop := Claim7.holds Tryd.pinned (.plain (OpenSpec.ofChange fnBitsSpec)) fnBitsCard

/-- THE SECOND FORM's CARD OF 'laws.FnExactDecodeBits'. -/
def fnExactDecodeBitsUptoCard : Claim7 := { stood := { row := fnExactDecodeBitsUptoRow, standIns := [], harness := (true, "20ac87ab62f0e10a999f602ff03491eb01941a50828c777f4412f11465b9fdd4"), looks := false }, kinds := [], alts := [], laidByText := true, laidKinds := [.data, .pinned], laidTests := true, laidLooks := .later }
def FnExactDecodeBitsUptoCardSaid : Prop := Claim7.holds Tryd.pinned (.plain (OpenSpec.upto fnExactDecodeBitsSpec)) fnExactDecodeBitsUptoCard

/-- THE SECOND FORM's CARD OF 'laws.FnExactPackBits'. -/
def fnExactPackBitsUptoCard : Claim7 := { stood := { row := fnExactPackBitsUptoRow, standIns := [], harness := (true, "20ac87ab62f0e10a999f602ff03491eb01941a50828c777f4412f11465b9fdd4"), looks := false }, kinds := [], alts := [], laidByText := true, laidKinds := [.data, .pinned], laidTests := true, laidLooks := .later }
def FnExactPackBitsUptoCardSaid : Prop := Claim7.holds Tryd.pinned (.plain (OpenSpec.upto fnExactPackBitsSpec)) fnExactPackBitsUptoCard

/-- THE SECOND FORM's CARD OF 'laws.FnBits'. -/
def fnBitsUptoCard : Claim7 := { stood := { row := fnBitsUptoRow, standIns := [], harness := (true, "20ac87ab62f0e10a999f602ff03491eb01941a50828c777f4412f11465b9fdd4"), looks := false }, kinds := [], alts := [], laidByText := true, laidKinds := [.data, .pinned], laidTests := true, laidLooks := .later }
def FnBitsUptoCardSaid : Prop := Claim7.holds Tryd.pinned (.plain (OpenSpec.upto fnBitsSpec)) fnBitsUptoCard
end Rows
end Go.Proofs.YtobbhgghpjecjaaDoor
