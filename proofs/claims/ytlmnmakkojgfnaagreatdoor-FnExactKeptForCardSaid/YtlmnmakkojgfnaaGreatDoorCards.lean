/-
  DERIVED. GIVEN WITH THE SEED: THE CARDS: each row of YtlmnmakkojgfnaaGreatDoorRows.lean that lists a variable, with what it lists TIED to the program's text (the seventh form; the later family's looks); each row that meets fmt, with fmt's text TOLD by the authors' own Lean function (tested against real Go, not proved from fmt's source: count such statements apart). THE CARD IS WHAT COUNTS. Prove the row's statement (the work); the ties are given (YtlmnmakkojgfnaaGreatDoorTie.lean); close each card by the builder's one call (the guide's Derived/Test/ToyasCard.lean, 'card_holds'). Laid BY PROGRAM, IN A SANDBOX (cutbox-door.mjs). By AI agents, Wed Nov 11 2026. No macro, syntax, notation, axiom, sorry.
-/
import Derived.Test.YtlmnmakkojgfnaaGreatDoorRows
import GoSem.ClaimSeven
namespace Go.Proofs.YtlmnmakkojgfnaaGreatDoor
namespace Rows

/-- THE TIED CARD OF 'laws.FnExactGoodGateway'. -/
def fnExactGoodGatewayCard : Claim7 := { stood := { row := fnExactGoodGatewayRow, standIns := [], harness := (true, "8e1205d594f4dea2ef02a741e2f7d7510303f817268fc136f472677b6e98ef5c"), looks := true }, kinds := [], alts := [], laidByText := true, laidKinds := [.data, .data, .data, .data, .sentinel, .sentinel, .pinned], laidTests := true, laidLooks := .later }
def FnExactGoodGatewayCardSaid : Prop := Claim7.holds Tryz.pinned (.plain (OpenSpec.ofChange fnExactGoodGatewaySpec)) fnExactGoodGatewayCard

/-- THE TIED CARD OF 'laws.FnExactKeptFor'. -/
def fnExactKeptForCard : Claim7 := { stood := { row := fnExactKeptForRow, standIns := [], harness := (true, "8e1205d594f4dea2ef02a741e2f7d7510303f817268fc136f472677b6e98ef5c"), looks := true }, kinds := [], alts := [], laidByText := true, laidKinds := [.data, .data, .data, .data, .sentinel, .sentinel, .pinned], laidTests := true, laidLooks := .later }
def FnExactKeptForCardSaid : Prop := Claim7.holds Tryz.pinned (.plain (OpenSpec.ofChange fnExactKeptForSpec)) fnExactKeptForCard

/-- THE TIED CARD OF 'laws.FnExactForget'. -/
def fnExactForgetCard : Claim7 := { stood := { row := fnExactForgetRow, standIns := [], harness := (true, "8e1205d594f4dea2ef02a741e2f7d7510303f817268fc136f472677b6e98ef5c"), looks := true }, kinds := [], alts := [], laidByText := true, laidKinds := [.data, .data, .data, .data, .sentinel, .sentinel, .pinned], laidTests := true, laidLooks := .later }
def FnExactForgetCardSaid : Prop := Claim7.holds Tryz.pinned (.plain (OpenSpec.ofChange fnExactForgetSpec)) fnExactForgetCard

/-- THE TIED CARD OF 'laws.FnExactPutItem'. -/
def fnExactPutItemCard : Claim7 := { stood := { row := fnExactPutItemRow, standIns := [], harness := (true, "8e1205d594f4dea2ef02a741e2f7d7510303f817268fc136f472677b6e98ef5c"), looks := true }, kinds := [], alts := [], laidByText := true, laidKinds := [.data, .data, .data, .data, .sentinel, .sentinel, .pinned], laidTests := true, laidLooks := .later }
def FnExactPutItemCardSaid : Prop := Claim7.holds Tryz.pinned (.plain (OpenSpec.ofChange fnExactPutItemSpec)) fnExactPutItemCard

/-- THE TIED CARD OF 'laws.FnPicked'. -/
def fnPickedCard : Claim7 := { stood := { row := fnPickedRow, standIns := [], harness := (true, "8e1205d594f4dea2ef02a741e2f7d7510303f817268fc136f472677b6e98ef5c"), looks := true }, kinds := [], alts := [], laidByText := true, laidKinds := [.data, .data, .data, .data, .sentinel, .sentinel, .pinned], laidTests := true, laidLooks := .later }
def FnPickedCardSaid : Prop := Claim7.holds Tryz.pinned (.plain (OpenSpec.ofChange fnPickedSpec)) fnPickedCard

/-- THE SECOND FORM's CARD OF 'laws.FnExactGoodGateway'. -/
def fnExactGoodGatewayUptoCard : Claim7 := { stood := { row := fnExactGoodGatewayUptoRow, standIns := [], harness := (true, "8e1205d594f4dea2ef02a741e2f7d7510303f817268fc136f472677b6e98ef5c"), looks := true }, kinds := [], alts := [], laidByText := true, laidKinds := [.data, .data, .data, .data, .sentinel, .sentinel, .pinned], laidTests := true, laidLooks := .later }
def FnExactGoodGatewayUptoCardSaid : Prop := Claim7.holds Tryz.pinned (.plain (OpenSpec.upto fnExactGoodGatewaySpec)) fnExactGoodGatewayUptoCard

/-- THE SECOND FORM's CARD OF 'laws.FnExactKeptFor'. -/
def fnExactKeptForUptoCard : Claim7 := { stood := { row := fnExactKeptForUptoRow, standIns := [], harness := (true, "8e1205d594f4dea2ef02a741e2f7d7510303f817268fc136f472677b6e98ef5c"), looks := true }, kinds := [], alts := [], laidByText := true, laidKinds := [.data, .data, .data, .data, .sentinel, .sentinel, .pinned], laidTests := true, laidLooks := .later }
def FnExactKeptForUptoCardSaid : Prop := Claim7.holds Tryz.pinned (.plain (OpenSpec.upto fnExactKeptForSpec)) fnExactKeptForUptoCard

/-- THE SECOND FORM's CARD OF 'laws.FnExactForget'. -/
def fnExactForgetUptoCard : Claim7 := { stood := { row := fnExactForgetUptoRow, standIns := [], harness := (true, "8e1205d594f4dea2ef02a741e2f7d7510303f817268fc136f472677b6e98ef5c"), looks := true }, kinds := [], alts := [], laidByText := true, laidKinds := [.data, .data, .data, .data, .sentinel, .sentinel, .pinned], laidTests := true, laidLooks := .later }
def FnExactForgetUptoCardSaid : Prop := Claim7.holds Tryz.pinned (.plain (OpenSpec.upto fnExactForgetSpec)) fnExactForgetUptoCard

/-- THE SECOND FORM's CARD OF 'laws.FnExactPutItem'. -/
def fnExactPutItemUptoCard : Claim7 := { stood := { row := fnExactPutItemUptoRow, standIns := [], harness := (true, "8e1205d594f4dea2ef02a741e2f7d7510303f817268fc136f472677b6e98ef5c"), looks := true }, kinds := [], alts := [], laidByText := true, laidKinds := [.data, .data, .data, .data, .sentinel, .sentinel, .pinned], laidTests := true, laidLooks := .later }
def FnExactPutItemUptoCardSaid : Prop := Claim7.holds Tryz.pinned (.plain (OpenSpec.upto fnExactPutItemSpec)) fnExactPutItemUptoCard

/-- THE SECOND FORM's CARD OF 'laws.FnPicked'. -/
def fnPickedUptoCard : Claim7 := { stood := { row := fnPickedUptoRow, standIns := [], harness := (true, "8e1205d594f4dea2ef02a741e2f7d7510303f817268fc136f472677b6e98ef5c"), looks := true }, kinds := [], alts := [], laidByText := true, laidKinds := [.data, .data, .data, .data, .sentinel, .sentinel, .pinned], laidTests := true, laidLooks := .later }
def FnPickedUptoCardSaid : Prop := Claim7.holds Tryz.pinned (.plain (OpenSpec.upto fnPickedSpec)) fnPickedUptoCard
end Rows
end Go.Proofs.YtlmnmakkojgfnaaGreatDoor
