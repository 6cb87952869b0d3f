/-
  DERIVED. GIVEN WITH THE SEED: THE CARDS: each row of YthneflfbafieeaaGreatDoorRows.lean that lists a variable, with what it lists TIED to the program's text (the seventh form; the later family's looks); each row that meets fmt, with fmt's text TOLD by the authors' own Lean function (tested against real Go, not proved from fmt's source: count such statements apart). THE CARD IS WHAT COUNTS. Prove the row's statement (the work); the ties are given (YthneflfbafieeaaGreatDoorTie.lean); close each card by the builder's one call (the guide's Derived/Test/ToyasCard.lean, 'card_holds'). Laid BY PROGRAM, IN A SANDBOX (cutbox-door.mjs). By AI agents, Wed Nov 11 2026. No macro, syntax, notation, axiom, sorry.
-/
import Derived.Test.YthneflfbafieeaaGreatDoorRows
import GoSem.ClaimSeven
namespace Go.Proofs.YthneflfbafieeaaGreatDoor
namespace Rows

/-- THE TIED CARD OF 'laws.FnExactTakeRequest'. -/
def fnExactTakeRequestCard : Claim7 := { stood := { row := fnExactTakeRequestRow, standIns := [], harness := (true, "27c7beb7f60a958867d5c5a1951c7a6e4d23a5d0424296ff93b0a0a72de0faa9"), looks := true }, kinds := [], alts := [], laidByText := true, laidKinds := [.data, .data, .data, .data, .sentinel, .sentinel, .pinned], laidTests := true, laidLooks := .later }
def FnExactTakeRequestCardSaid : Prop := Claim7.holds Tryz.pinned (.plain (OpenSpec.ofChange fnExactTakeRequestSpec)) fnExactTakeRequestCard

/-- THE TIED CARD OF 'laws.FnExactTakeResponse'. -/
def fnExactTakeResponseCard : Claim7 := { stood := { row := fnExactTakeResponseRow, standIns := [], harness := (true, "27c7beb7f60a958867d5c5a1951c7a6e4d23a5d0424296ff93b0a0a72de0faa9"), looks := true }, kinds := [], alts := [], laidByText := true, laidKinds := [.data, .data, .data, .data, .sentinel, .sentinel, .pinned], laidTests := true, laidLooks := .later }
def FnExactTakeResponseCardSaid : Prop := Claim7.holds Tryz.pinned (.plain (OpenSpec.ofChange fnExactTakeResponseSpec)) fnExactTakeResponseCard

/-- THE TIED CARD OF 'laws.FnTorn'. -/
def fnTornCard : Claim7 := { stood := { row := fnTornRow, standIns := [], harness := (true, "27c7beb7f60a958867d5c5a1951c7a6e4d23a5d0424296ff93b0a0a72de0faa9"), looks := true }, kinds := [], alts := [], laidByText := true, laidKinds := [.data, .data, .data, .data, .sentinel, .sentinel, .pinned], laidTests := true, laidLooks := .later }
def FnTornCardSaid : Prop := Claim7.holds Tryz.pinned (.plain (OpenSpec.ofChange fnTornSpec)) fnTornCard

/-- THE SECOND FORM's CARD OF 'laws.FnExactTakeRequest'. -/
def fnExactTakeRequestUptoCard : Claim7 := { stood := { row := fnExactTakeRequestUptoRow, standIns := [], harness := (true, "27c7beb7f60a958867d5c5a1951c7a6e4d23a5d0424296ff93b0a0a72de0faa9"), looks := true }, kinds := [], alts := [], laidByText := true, laidKinds := [.data, .data, .data, .data, .sentinel, .sentinel, .pinned], laidTests := true, laidLooks := .later }
def FnExactTakeRequestUptoCardSaid : Prop := Claim7.holds Tryz.pinned (.plain (OpenSpec.upto fnExactTakeRequestSpec)) fnExactTakeRequestUptoCard

/-- THE SECOND FORM's CARD OF 'laws.FnExactTakeResponse'. -/
def fnExactTakeResponseUptoCard : Claim7 := { stood := { row := fnExactTakeResponseUptoRow, standIns := [], harness := (true, "27c7beb7f60a958867d5c5a1951c7a6e4d23a5d0424296ff93b0a0a72de0faa9"), looks := true }, kinds := [], alts := [], laidByText := true, laidKinds := [.data, .data, .data, .data, .sentinel, .sentinel, .pinned], laidTests := true, laidLooks := .later }
def FnExactTakeResponseUptoCardSaid : Prop := Claim7.holds Tryz.pinned (.plain (OpenSpec.upto fnExactTakeResponseSpec)) fnExactTakeResponseUptoCard

/-- THE SECOND FORM's CARD OF 'laws.FnTorn'. -/
def fnTornUptoCard : Claim7 := { stood := { row := fnTornUptoRow, standIns := [], harness := (true, "27c7beb7f60a958867d5c5a1951c7a6e4d23a5d0424296ff93b0a0a72de0faa9"), looks := true }, kinds := [], alts := [], laidByText := true, laidKinds := [.data, .data, .data, .data, .sentinel, .sentinel, .pinned], laidTests := true, laidLooks := .later }
def FnTornUptoCardSaid : Prop := Claim7.holds Tryz.pinned (.plain (OpenSpec.upto fnTornSpec)) fnTornUptoCard
end Rows
end Go.Proofs.YthneflfbafieeaaGreatDoor
