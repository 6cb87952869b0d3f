/-
  No cell of these rows narrows 'for every input' (looked for: loops, veiled, ifaces, maps, wideKeys, modest, calm, conditions, laid).
  DERIVED. THE GIVEN ROWS OF THIS SEAT. 6 by the template 'for every input the law returns true; each argument reads behind the call as it read before'; 0 by the template 'total and deterministic' (their statements: YtfopmaiednikhaaTotals.lean).
  GIVEN WITH THE SEED: the statements are not yours to turn. If you find one false, say at which input.
  Laid BY PROGRAM, IN A SANDBOX (cutbox-rows.mjs): the forced cells as the released guide's own fill.sh prints them over the translation a5d7d88a5eb4b9db… (all of the seat's roots in one cut). By AI agents, Wed Nov 11 2026. No macro, syntax, notation, axiom, sorry.
-/
import Derived.Test.YtfopmaiednikhaaChecked
import GoSem.Claim
import GoSem.ClaimJoined
import GoSem.ClaimMapViews
import Derived.JoinedTies
import Derived.KernelRfl
namespace Go.Proofs.Ytfopmaiednikhaa
/- THE CELL 'sum', in the pinned program and in every row, IS THE sha256 OF THE DUMP (.gsa) THAT YtfopmaiednikhaaProg.lean LOADS. Nothing in Lean hashes anything: it is a label: what it is worth is what the hold of that sum in a sandbox is worth. -/
noncomputable def Try.pinned : Pinned := { name := "ytfopmaiednikhaa", sum := "a5d7d88a5eb4b9dbc7aad3945c4d9e7bad4fe869f6d6660e4a110689f842b8c8", checked := Try.checked }
namespace Rows
def none {H : Type} : Left H := { results := [], args := [] }

/-- 'laws.FnExactDropEntry': WHATEVER THE INPUT: true; the input reads as it did. -/
def fnExactDropEntrySpec : ChangeSpec := { name := "fnExactDropEntry", fn := fun _ => fun
  | [d1, d2] => { results := [.lit (.bool true)], args := [d1, d2] }
  | _ => none }
def fnExactDropEntryRow : OpenClaim := { program := "ytfopmaiednikhaa", sum := "a5d7d88a5eb4b9dbc7aad3945c4d9e7bad4fe869f6d6660e4a110689f842b8c8", func := "loop.example/g00256/laws.FnExactDropEntry", spec := "fnExactDropEntry", unfollowed := true, recurses := true, apart := false }
def FnExactDropEntrySaid : Prop := fnExactDropEntryRow.holds Try.pinned (OpenSpec.ofChange fnExactDropEntrySpec)

/-- ITS FALSE NEIGHBOUR: 'it returns false'. Refute it at one input. -/
def fnExactDropEntryWrong : ChangeSpec := { name := "fnExactDropEntry", fn := fun _ => fun
  | [d1, d2] => { results := [.lit (.bool false)], args := [d1, d2] }
  | _ => none }
def FnExactDropEntryWrongFalsely : Prop := fnExactDropEntryRow.holds Try.pinned (OpenSpec.ofChange fnExactDropEntryWrong)

/-- 'laws.FnScanned': WHATEVER THE INPUT: true; the input reads as it did. -/
def fnScannedSpec : ChangeSpec := { name := "fnScanned", fn := fun _ => fun
  | [d] => { results := [.lit (.bool true)], args := [d] }
  | _ => none }
def fnScannedRow : OpenClaim := { program := "ytfopmaiednikhaa", sum := "a5d7d88a5eb4b9dbc7aad3945c4d9e7bad4fe869f6d6660e4a110689f842b8c8", func := "loop.example/g00256/laws.FnScanned", spec := "fnScanned", unfollowed := true, recurses := true, apart := false }
def FnScannedSaid : Prop := fnScannedRow.holds Try.pinned (OpenSpec.ofChange fnScannedSpec)

/-- ITS FALSE NEIGHBOUR: 'it returns false'. Refute it at one input. -/
def fnScannedWrong : ChangeSpec := { name := "fnScanned", fn := fun _ => fun
  | [d] => { results := [.lit (.bool false)], args := [d] }
  | _ => none }
def FnScannedWrongFalsely : Prop := fnScannedRow.holds Try.pinned (OpenSpec.ofChange fnScannedWrong)

/-- 'laws.FnExactPutEntry': WHATEVER THE INPUT: true; the input reads as it did. -/
def fnExactPutEntrySpec : ChangeSpec := { name := "fnExactPutEntry", fn := fun _ => fun
  | [d1, d2] => { results := [.lit (.bool true)], args := [d1, d2] }
  | _ => none }
def fnExactPutEntryRow : OpenClaim := { program := "ytfopmaiednikhaa", sum := "a5d7d88a5eb4b9dbc7aad3945c4d9e7bad4fe869f6d6660e4a110689f842b8c8", func := "loop.example/g00256/laws.FnExactPutEntry", spec := "fnExactPutEntry", unfollowed := true, recurses := true, apart := false }
def FnExactPutEntrySaid : Prop := fnExactPutEntryRow.holds Try.pinned (OpenSpec.ofChange fnExactPutEntrySpec)

/-- ITS FALSE NEIGHBOUR: 'it returns false'. Refute it at one input. -/
def fnExactPutEntryWrong : ChangeSpec := { name := "fnExactPutEntry", fn := fun _ => fun
  | [d1, d2] => { results := [.lit (.bool false)], args := [d1, d2] }
  | _ => none }
def FnExactPutEntryWrongFalsely : Prop := fnExactPutEntryRow.holds Try.pinned (OpenSpec.ofChange fnExactPutEntryWrong)

/-- 'laws.FnExactGetEntry': WHATEVER THE INPUT: true; the input reads as it did. -/
def fnExactGetEntrySpec : ChangeSpec := { name := "fnExactGetEntry", fn := fun _ => fun
  | [d1, d2] => { results := [.lit (.bool true)], args := [d1, d2] }
  | _ => none }
def fnExactGetEntryRow : OpenClaim := { program := "ytfopmaiednikhaa", sum := "a5d7d88a5eb4b9dbc7aad3945c4d9e7bad4fe869f6d6660e4a110689f842b8c8", func := "loop.example/g00256/laws.FnExactGetEntry", spec := "fnExactGetEntry", unfollowed := true, recurses := true, apart := false }
def FnExactGetEntrySaid : Prop := fnExactGetEntryRow.holds Try.pinned (OpenSpec.ofChange fnExactGetEntrySpec)

/-- ITS FALSE NEIGHBOUR: 'it returns false'. Refute it at one input. -/
def fnExactGetEntryWrong : ChangeSpec := { name := "fnExactGetEntry", fn := fun _ => fun
  | [d1, d2] => { results := [.lit (.bool false)], args := [d1, d2] }
  | _ => none }
def FnExactGetEntryWrongFalsely : Prop := fnExactGetEntryRow.holds Try.pinned (OpenSpec.ofChange fnExactGetEntryWrong)

/-- 'laws.FnExactPlaySegmented': WHATEVER THE INPUT: true; the input reads as it did. -/
def fnExactPlaySegmentedSpec : ChangeSpec := { name := "fnExactPlaySegmented", fn := fun _ => fun
  | [d1, d2, d3] => { results := [.lit (.bool true)], args := [d1, d2, d3] }
  | _ => none }
def fnExactPlaySegmentedRow : OpenClaim := { program := "ytfopmaiednikhaa", sum := "a5d7d88a5eb4b9dbc7aad3945c4d9e7bad4fe869f6d6660e4a110689f842b8c8", func := "loop.example/g00256/laws.FnExactPlaySegmented", spec := "fnExactPlaySegmented", unfollowed := true, recurses := true, apart := false }
def FnExactPlaySegmentedSaid : Prop := fnExactPlaySegmentedRow.holds Try.pinned (OpenSpec.ofChange fnExactPlaySegmentedSpec)

/-- ITS FALSE NEIGHBOUR: 'it returns false'. Refute it at one input. -/
def fnExactPlaySegmentedWrong : ChangeSpec := { name := "fnExactPlaySegmented", fn := fun _ => fun
  | [d1, d2, d3] => { results := [.lit (.bool false)], args := [d1, d2, d3] }
  | _ => none }
def FnExactPlaySegmentedWrongFalsely : Prop := fnExactPlaySegmentedRow.holds Try.pinned (OpenSpec.ofChange fnExactPlaySegmentedWrong)

/-- 'laws.FnParts': WHATEVER THE INPUT: true; the input reads as it did. -/
def fnPartsSpec : ChangeSpec := { name := "fnParts", fn := fun _ => fun
  | [d1, d2] => { results := [.lit (.bool true)], args := [d1, d2] }
  | _ => none }
def fnPartsRow : OpenClaim := { program := "ytfopmaiednikhaa", sum := "a5d7d88a5eb4b9dbc7aad3945c4d9e7bad4fe869f6d6660e4a110689f842b8c8", func := "loop.example/g00256/laws.FnParts", spec := "fnParts", unfollowed := true, recurses := true, apart := false }
def FnPartsSaid : Prop := fnPartsRow.holds Try.pinned (OpenSpec.ofChange fnPartsSpec)

/-- ITS FALSE NEIGHBOUR: 'it returns false'. Refute it at one input. -/
def fnPartsWrong : ChangeSpec := { name := "fnParts", fn := fun _ => fun
  | [d1, d2] => { results := [.lit (.bool false)], args := [d1, d2] }
  | _ => none }
def FnPartsWrongFalsely : Prop := fnPartsRow.holds Try.pinned (OpenSpec.ofChange fnPartsWrong)

/- THE SECOND FORM. 'bulk': how many values and letters a reading holds, each counted each time it is reached (what is shared counts as often as it is met; a slice's spare places count too). A statement '..UptoSaid' is the law's where the arguments, and the package variables that the reading takes, are together of bulk at most 1048576: NARROWER than '..Said'. Prove '..Said' where nothing that the law and all that it calls make is longer than what came in: it says more and counts as full. Else prove '..UptoSaid'. A law counts once. -/
mutual
def uptoBulk {H : Type} : DataW H → Nat
  | .lit (.string bytes) => bytes.length + 1
  | .lit _ => 1
  | .nil => 1
  | .ptr d => uptoBulk d + 1
  | .slice elems spare => uptoBulkAll elems + uptoBulkAll spare + 1
  | .agg parts => uptoBulkAll parts + 1
  | .iface _ d => uptoBulk d + 1
  | .map entries => uptoBulkEntries entries + 1
  | .held _ => 1
def uptoBulkAll {H : Type} : List (DataW H) → Nat
  | [] => 0
  | d :: r => uptoBulk d + uptoBulkAll r
def uptoBulkEntries {H : Type} : List (Lit × DataW H) → Nat
  | [] => 0
  | x :: r => uptoBulkEntry x + uptoBulkEntries r
def uptoBulkEntry {H : Type} : Lit × DataW H → Nat
  | (.string bytes, d) => bytes.length + uptoBulk d + 1
  | (_, d) => uptoBulk d + 1
 end
def uptoSmall : (H : Type) → List (DataW H) → Bool := fun _ ds => decide (uptoBulkAll ds ≤ 1048576)
def OpenSpec.upto (s : _root_.Go.ChangeSpec) : _root_.Go.OpenSpec := { _root_.Go.OpenSpec.ofChange s with cond := some uptoSmall }

/-- 'laws.FnExactDropEntry', WHERE WHAT IT READS IS OF BULK AT MOST 1048576: true; the input reads as it did. -/
def fnExactDropEntryUptoRow : OpenClaim := { program := "ytfopmaiednikhaa", sum := "a5d7d88a5eb4b9dbc7aad3945c4d9e7bad4fe869f6d6660e4a110689f842b8c8", func := "loop.example/g00256/laws.FnExactDropEntry", spec := "fnExactDropEntry", unfollowed := true, recurses := true, apart := false, narrowed := true }
def FnExactDropEntryUptoSaid : Prop := fnExactDropEntryUptoRow.holds Try.pinned (OpenSpec.upto fnExactDropEntrySpec)

/-- 'laws.FnScanned', WHERE WHAT IT READS IS OF BULK AT MOST 1048576: true; the input reads as it did. -/
def fnScannedUptoRow : OpenClaim := { program := "ytfopmaiednikhaa", sum := "a5d7d88a5eb4b9dbc7aad3945c4d9e7bad4fe869f6d6660e4a110689f842b8c8", func := "loop.example/g00256/laws.FnScanned", spec := "fnScanned", unfollowed := true, recurses := true, apart := false, narrowed := true }
def FnScannedUptoSaid : Prop := fnScannedUptoRow.holds Try.pinned (OpenSpec.upto fnScannedSpec)

/-- 'laws.FnExactPutEntry', WHERE WHAT IT READS IS OF BULK AT MOST 1048576: true; the input reads as it did. -/
def fnExactPutEntryUptoRow : OpenClaim := { program := "ytfopmaiednikhaa", sum := "a5d7d88a5eb4b9dbc7aad3945c4d9e7bad4fe869f6d6660e4a110689f842b8c8", func := "loop.example/g00256/laws.FnExactPutEntry", spec := "fnExactPutEntry", unfollowed := true, recurses := true, apart := false, narrowed := true }
def FnExactPutEntryUptoSaid : Prop := fnExactPutEntryUptoRow.holds Try.pinned (OpenSpec.upto fnExactPutEntrySpec)

/-- 'laws.FnExactGetEntry', WHERE WHAT IT READS IS OF BULK AT MOST 1048576: true; the input reads as it did. -/
def fnExactGetEntryUptoRow : OpenClaim := { program := "ytfopmaiednikhaa", sum := "a5d7d88a5eb4b9dbc7aad3945c4d9e7bad4fe869f6d6660e4a110689f842b8c8", func := "loop.example/g00256/laws.FnExactGetEntry", spec := "fnExactGetEntry", unfollowed := true, recurses := true, apart := false, narrowed := true }
def FnExactGetEntryUptoSaid : Prop := fnExactGetEntryUptoRow.holds Try.pinned (OpenSpec.upto fnExactGetEntrySpec)

/-- 'laws.FnExactPlaySegmented', WHERE WHAT IT READS IS OF BULK AT MOST 1048576: true; the input reads as it did. -/
def fnExactPlaySegmentedUptoRow : OpenClaim := { program := "ytfopmaiednikhaa", sum := "a5d7d88a5eb4b9dbc7aad3945c4d9e7bad4fe869f6d6660e4a110689f842b8c8", func := "loop.example/g00256/laws.FnExactPlaySegmented", spec := "fnExactPlaySegmented", unfollowed := true, recurses := true, apart := false, narrowed := true }
def FnExactPlaySegmentedUptoSaid : Prop := fnExactPlaySegmentedUptoRow.holds Try.pinned (OpenSpec.upto fnExactPlaySegmentedSpec)

/-- 'laws.FnParts', WHERE WHAT IT READS IS OF BULK AT MOST 1048576: true; the input reads as it did. -/
def fnPartsUptoRow : OpenClaim := { program := "ytfopmaiednikhaa", sum := "a5d7d88a5eb4b9dbc7aad3945c4d9e7bad4fe869f6d6660e4a110689f842b8c8", func := "loop.example/g00256/laws.FnParts", spec := "fnParts", unfollowed := true, recurses := true, apart := false, narrowed := true }
def FnPartsUptoSaid : Prop := fnPartsUptoRow.holds Try.pinned (OpenSpec.upto fnPartsSpec)

end Rows
end Go.Proofs.Ytfopmaiednikhaa
