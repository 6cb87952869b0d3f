/-
  DERIVED. GIVEN WITH THE SEED: THE CARDS: each row of YtfopmaiednikhaaDoorRows.lean that lists a variable, with what it lists TIED to the program's text (the seventh form; the later family's looks); each row that meets fmt, with fmt's text TOLD by the authors' own Lean function (tested against real Go, not proved from fmt's source: count such statements apart). THE CARD IS WHAT COUNTS. Prove the row's statement (the work); the ties are given (YtfopmaiednikhaaDoorTie.lean); close each card by the builder's one call (the guide's Derived/Test/ToyasCard.lean, 'card_holds'). Laid BY PROGRAM, IN A SANDBOX (cutbox-door.mjs). By AI agents, Wed Nov 11 2026. No macro, syntax, notation, axiom, sorry.
-/
import Derived.Test.YtfopmaiednikhaaDoorRows
import GoSem.ClaimSeven
namespace Go.Proofs.YtfopmaiednikhaaDoor
namespace Rows

/-- THE TIED CARD OF 'laws.FnExactRendezvousOf'. -/
def fnExactRendezvousOfCard : Claim7 := { stood := { row := fnExactRendezvousOfRow, standIns := [], harness := (true, "7b716fb9118a06377be2c9f8bb63b6872ce359c1770e94d1b240d3e1678165ad"), looks := false }, kinds := [], alts := [], laidByText := true, laidKinds := [.data, .data, .data], laidTests := true, laidLooks := .later }
def FnExactRendezvousOfCardSaid : Prop := Claim7.holds Tryd.pinned (.plain (OpenSpec.ofChange fnExactRendezvousOfSpec)) fnExactRendezvousOfCard

/-- THE TIED CARD OF 'laws.FnExactRankedOf'. -/
def fnExactRankedOfCard : Claim7 := { stood := { row := fnExactRankedOfRow, standIns := [], harness := (true, "7b716fb9118a06377be2c9f8bb63b6872ce359c1770e94d1b240d3e1678165ad"), looks := false }, kinds := [], alts := [], laidByText := true, laidKinds := [.data, .data, .data], laidTests := true, laidLooks := .later }
def FnExactRankedOfCardSaid : Prop := Claim7.holds Tryd.pinned (.plain (OpenSpec.ofChange fnExactRankedOfSpec)) fnExactRankedOfCard

/-- THE TIED CARD OF 'laws.FnExactMovedKeys'. -/
def fnExactMovedKeysCard : Claim7 := { stood := { row := fnExactMovedKeysRow, standIns := [], harness := (true, "7b716fb9118a06377be2c9f8bb63b6872ce359c1770e94d1b240d3e1678165ad"), looks := false }, kinds := [], alts := [], laidByText := true, laidKinds := [.data, .data, .data], laidTests := true, laidLooks := .later }
def FnExactMovedKeysCardSaid : Prop := Claim7.holds Tryd.pinned (.plain (OpenSpec.ofChange fnExactMovedKeysSpec)) fnExactMovedKeysCard

/-- THE TIED CARD OF 'laws.FnRendezvous'. -/
def fnRendezvousCard : Claim7 := { stood := { row := fnRendezvousRow, standIns := [], harness := (true, "7b716fb9118a06377be2c9f8bb63b6872ce359c1770e94d1b240d3e1678165ad"), looks := false }, kinds := [], alts := [], laidByText := true, laidKinds := [.data, .data, .data], laidTests := true, laidLooks := .later }
def FnRendezvousCardSaid : Prop := Claim7.holds Tryd.pinned (.plain (OpenSpec.ofChange fnRendezvousSpec)) fnRendezvousCard

/-- THE TIED CARD OF 'laws.FnExactRingOf'. -/
def fnExactRingOfCard : Claim7 := { stood := { row := fnExactRingOfRow, standIns := [], harness := (true, "7b716fb9118a06377be2c9f8bb63b6872ce359c1770e94d1b240d3e1678165ad"), looks := false }, kinds := [], alts := [], laidByText := true, laidKinds := [.data, .data, .data], laidTests := true, laidLooks := .later }
def FnExactRingOfCardSaid : Prop := Claim7.holds Tryd.pinned (.plain (OpenSpec.ofChange fnExactRingOfSpec)) fnExactRingOfCard

/-- THE TIED CARD OF 'laws.FnExactNewGateway'. -/
def fnExactNewGatewayCard : Claim7 := { stood := { row := fnExactNewGatewayRow, standIns := [], harness := (true, "7b716fb9118a06377be2c9f8bb63b6872ce359c1770e94d1b240d3e1678165ad"), looks := false }, kinds := [], alts := [], laidByText := true, laidKinds := [.data, .data, .data], laidTests := true, laidLooks := .later }
def FnExactNewGatewayCardSaid : Prop := Claim7.holds Tryd.pinned (.plain (OpenSpec.ofChange fnExactNewGatewaySpec)) fnExactNewGatewayCard

/-- THE SECOND FORM's CARD OF 'laws.FnExactRendezvousOf'. -/
def fnExactRendezvousOfUptoCard : Claim7 := { stood := { row := fnExactRendezvousOfUptoRow, standIns := [], harness := (true, "7b716fb9118a06377be2c9f8bb63b6872ce359c1770e94d1b240d3e1678165ad"), looks := false }, kinds := [], alts := [], laidByText := true, laidKinds := [.data, .data, .data], laidTests := true, laidLooks := .later }
def FnExactRendezvousOfUptoCardSaid : Prop := Claim7.holds Tryd.pinned (.plain (OpenSpec.upto fnExactRendezvousOfSpec)) fnExactRendezvousOfUptoCard

/-- THE SECOND FORM's CARD OF 'laws.FnExactRankedOf'. -/
def fnExactRankedOfUptoCard : Claim7 := { stood := { row := fnExactRankedOfUptoRow, standIns := [], harness := (true, "7b716fb9118a06377be2c9f8bb63b6872ce359c1770e94d1b240d3e1678165ad"), looks := false }, kinds := [], alts := [], laidByText := true, laidKinds := [.data, .data, .data], laidTests := true, laidLooks := .later }
def FnExactRankedOfUptoCardSaid : Prop := Claim7.holds Tryd.pinned (.plain (OpenSpec.upto fnExactRankedOfSpec)) fnExactRankedOfUptoCard

/-- THE SECOND FORM's CARD OF 'laws.FnExactMovedKeys'. -/
def fnExactMovedKeysUptoCard : Claim7 := { stood := { row := fnExactMovedKeysUptoRow, standIns := [], harness := (true, "7b716fb9118a06377be2c9f8bb63b6872ce359c1770e94d1b240d3e1678165ad"), looks := false }, kinds := [], alts := [], laidByText := true, laidKinds := [.data, .data, .data], laidTests := true, laidLooks := .later }
def FnExactMovedKeysUptoCardSaid : Prop := Claim7.holds Tryd.pinned (.plain (OpenSpec.upto fnExactMovedKeysSpec)) fnExactMovedKeysUptoCard

/-- THE SECOND FORM's CARD OF 'laws.FnRendezvous'. -/
def fnRendezvousUptoCard : Claim7 := { stood := { row := fnRendezvousUptoRow, standIns := [], harness := (true, "7b716fb9118a06377be2c9f8bb63b6872ce359c1770e94d1b240d3e1678165ad"), looks := false }, kinds := [], alts := [], laidByText := true, laidKinds := [.data, .data, .data], laidTests := true, laidLooks := .later }
def FnRendezvousUptoCardSaid : Prop := Claim7.holds Tryd.pinned (.plain (OpenSpec.upto fnRendezvousSpec)) fnRendezvousUptoCard

/-- THE SECOND FORM's CARD OF 'laws.FnExactRingOf'. -/
def fnExactRingOfUptoCard : Claim7 := { stood := { row := fnExactRingOfUptoRow, standIns := [], harness := (true, "7b716fb9118a06377be2c9f8bb63b6872ce359c1770e94d1b240d3e1678165ad"), looks := false }, kinds := [], alts := [], laidByText := true, laidKinds := [.data, .data, .data], laidTests := true, laidLooks := .later }
def FnExactRingOfUptoCardSaid : Prop := Claim7.holds Tryd.pinned (.plain (OpenSpec.upto fnExactRingOfSpec)) fnExactRingOfUptoCard

/-- THE SECOND FORM's CARD OF 'laws.FnExactNewGateway'. -/
def fnExactNewGatewayUptoCard : Claim7 := { stood := { row := fnExactNewGatewayUptoRow, standIns := [], harness := (true, "7b716fb9118a06377be2c9f8bb63b6872ce359c1770e94d1b240d3e1678165ad"), looks := false }, kinds := [], alts := [], laidByText := true, laidKinds := [.data, .data, .data], laidTests := true, laidLooks := .later }
def FnExactNewGatewayUptoCardSaid : Prop := Claim7.holds Tryd.pinned (.plain (OpenSpec.upto fnExactNewGatewaySpec)) fnExactNewGatewayUptoCard
end Rows
end Go.Proofs.YtfopmaiednikhaaDoor
