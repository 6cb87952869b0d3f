/-
  DERIVED. GIVEN WITH THE SEED: THE CARDS: each row of YtapnfghkfjkinaaDoorRows.lean that lists a variable, with what it lists TIED to the program's text (the seventh form; the later family's looks); each row that meets fmt, with fmt's text TOLD by the authors' own Lean function (tested against real Go, not proved from fmt's source: count such statements apart). THE CARD IS WHAT COUNTS. Prove the row's statement (the work); the ties are given (YtapnfghkfjkinaaDoorTie.lean); close each card by the builder's one call (the guide's Derived/Test/ToyasCard.lean, 'card_holds'). Laid BY PROGRAM, IN A SANDBOX (cutbox-door.mjs). By AI agents, Wed Nov 11 2026. No macro, syntax, notation, axiom, sorry.
-/
import Derived.Test.YtapnfghkfjkinaaDoorRows
import GoSem.ClaimSeven
namespace Go.Proofs.YtapnfghkfjkinaaDoor
namespace Rows

/-- THE TIED CARD OF 'laws.FnRing'. -/
def fnRingCard : Claim7 := { stood := { row := fnRingRow, standIns := [], harness := (true, "0ffcfd7cd97f2e020e4b38705733ac057f880fcf9921f44239f177875fd07f34"), looks := false }, kinds := [], alts := [], laidByText := true, laidKinds := [.data, .data, .data], laidTests := true, laidLooks := .later }
def FnRingCardSaid : Prop := Claim7.holds Tryd.pinned (.plain (OpenSpec.ofChange fnRingSpec)) fnRingCard

/-- THE SECOND FORM's CARD OF 'laws.FnRing'. -/
def fnRingUptoCard : Claim7 := { stood := { row := fnRingUptoRow, standIns := [], harness := (true, "0ffcfd7cd97f2e020e4b38705733ac057f880fcf9921f44239f177875fd07f34"), looks := false }, kinds := [], alts := [], laidByText := true, laidKinds := [.data, .data, .data], laidTests := true, laidLooks := .later }
def FnRingUptoCardSaid : Prop := Claim7.holds Tryd.pinned (.plain (OpenSpec.upto fnRingSpec)) fnRingUptoCard
end Rows
end Go.Proofs.YtapnfghkfjkinaaDoor
