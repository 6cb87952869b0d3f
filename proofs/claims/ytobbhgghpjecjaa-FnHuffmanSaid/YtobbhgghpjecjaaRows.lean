/-
  No cell of these rows narrows 'for every input' (looked for: loops, veiled, ifaces, maps, wideKeys, modest, calm, conditions, laid).
  DERIVED. THE GIVEN ROWS OF THIS SEAT. 6 by the template 'for every input the law returns true; each argument reads behind the call as it read before'; 0 by the template 'total and deterministic' (their statements: YtobbhgghpjecjaaTotals.lean).
  GIVEN WITH THE SEED: the statements are not yours to turn. If you find one false, say at which input.
  Laid BY PROGRAM, IN A SANDBOX (cutbox-rows.mjs): the forced cells as the released guide's own fill.sh prints them over the translation 3402edb7578bf52a… (all of the seat's roots in one cut). By AI agents, Wed Nov 11 2026. No macro, syntax, notation, axiom, sorry.
-/
import Derived.Test.YtobbhgghpjecjaaChecked
import GoSem.Claim
import GoSem.ClaimJoined
import GoSem.ClaimMapViews
import Derived.JoinedTies
import Derived.KernelRfl
namespace Go.Proofs.Ytobbhgghpjecjaa
/- THE CELL 'sum', in the pinned program and in every row, IS THE sha256 OF THE DUMP (.gsa) THAT YtobbhgghpjecjaaProg.lean LOADS. Nothing in Lean hashes anything: it is a label: what it is worth is what the hold of that sum in a sandbox is worth. -/
noncomputable def Try.pinned : Pinned := { name := "ytobbhgghpjecjaa", sum := "3402edb7578bf52a65483fd0bd96714f94df70923a9d6e1601f87763cbe98d5d", checked := Try.checked }
namespace Rows
def none {H : Type} : Left H := { results := [], args := [] }

/-- 'laws.FnRate': WHATEVER THE INPUT: true; the input reads as it did. -/
def fnRateSpec : ChangeSpec := { name := "fnRate", fn := fun _ => fun
  | [d1, d2] => { results := [.lit (.bool true)], args := [d1, d2] }
  | _ => none }
def fnRateRow : OpenClaim := { program := "ytobbhgghpjecjaa", sum := "3402edb7578bf52a65483fd0bd96714f94df70923a9d6e1601f87763cbe98d5d", func := "loop.example/g00256/laws.FnRate", spec := "fnRate", unfollowed := true, recurses := true, apart := false }
def FnRateSaid : Prop := fnRateRow.holds Try.pinned (OpenSpec.ofChange fnRateSpec)

/-- ITS FALSE NEIGHBOUR: 'it returns false'. Refute it at one input. -/
def fnRateWrong : ChangeSpec := { name := "fnRate", fn := fun _ => fun
  | [d1, d2] => { results := [.lit (.bool false)], args := [d1, d2] }
  | _ => none }
def FnRateWrongFalsely : Prop := fnRateRow.holds Try.pinned (OpenSpec.ofChange fnRateWrong)

/-- 'laws.FnPaced': WHATEVER THE INPUT: true; the input reads as it did. -/
def fnPacedSpec : ChangeSpec := { name := "fnPaced", fn := fun _ => fun
  | [d1, d2] => { results := [.lit (.bool true)], args := [d1, d2] }
  | _ => none }
def fnPacedRow : OpenClaim := { program := "ytobbhgghpjecjaa", sum := "3402edb7578bf52a65483fd0bd96714f94df70923a9d6e1601f87763cbe98d5d", func := "loop.example/g00256/laws.FnPaced", spec := "fnPaced", unfollowed := true, recurses := true, apart := false }
def FnPacedSaid : Prop := fnPacedRow.holds Try.pinned (OpenSpec.ofChange fnPacedSpec)

/-- ITS FALSE NEIGHBOUR: 'it returns false'. Refute it at one input. -/
def fnPacedWrong : ChangeSpec := { name := "fnPaced", fn := fun _ => fun
  | [d1, d2] => { results := [.lit (.bool false)], args := [d1, d2] }
  | _ => none }
def FnPacedWrongFalsely : Prop := fnPacedRow.holds Try.pinned (OpenSpec.ofChange fnPacedWrong)

/-- 'laws.FnCodes': WHATEVER THE INPUT: true; the input reads as it did. -/
def fnCodesSpec : ChangeSpec := { name := "fnCodes", fn := fun _ => fun
  | [d] => { results := [.lit (.bool true)], args := [d] }
  | _ => none }
def fnCodesRow : OpenClaim := { program := "ytobbhgghpjecjaa", sum := "3402edb7578bf52a65483fd0bd96714f94df70923a9d6e1601f87763cbe98d5d", func := "loop.example/g00256/laws.FnCodes", spec := "fnCodes", unfollowed := true, recurses := true, apart := false }
def FnCodesSaid : Prop := fnCodesRow.holds Try.pinned (OpenSpec.ofChange fnCodesSpec)

/-- ITS FALSE NEIGHBOUR: 'it returns false'. Refute it at one input. -/
def fnCodesWrong : ChangeSpec := { name := "fnCodes", fn := fun _ => fun
  | [d] => { results := [.lit (.bool false)], args := [d] }
  | _ => none }
def FnCodesWrongFalsely : Prop := fnCodesRow.holds Try.pinned (OpenSpec.ofChange fnCodesWrong)

/-- 'laws.FnHuffman': WHATEVER THE INPUT: true; the input reads as it did. -/
def fnHuffmanSpec : ChangeSpec := { name := "fnHuffman", fn := fun _ => fun
  | [d1, d2] => { results := [.lit (.bool true)], args := [d1, d2] }
  | _ => none }
def fnHuffmanRow : OpenClaim := { program := "ytobbhgghpjecjaa", sum := "3402edb7578bf52a65483fd0bd96714f94df70923a9d6e1601f87763cbe98d5d", func := "loop.example/g00256/laws.FnHuffman", spec := "fnHuffman", unfollowed := true, recurses := true, apart := false }
def FnHuffmanSaid : Prop := fnHuffmanRow.holds Try.pinned (OpenSpec.ofChange fnHuffmanSpec)

/-- ITS FALSE NEIGHBOUR: 'it returns false'. Refute it at one input. -/
def fnHuffmanWrong : ChangeSpec := { name := "fnHuffman", fn := fun _ => fun
  | [d1, d2] => { results := [.lit (.bool false)], args := [d1, d2] }
  | _ => none }
def FnHuffmanWrongFalsely : Prop := fnHuffmanRow.holds Try.pinned (OpenSpec.ofChange fnHuffmanWrong)

/-- 'laws.FnExactLengthsOf': WHATEVER THE INPUT: true; the input reads as it did. -/
def fnExactLengthsOfSpec : ChangeSpec := { name := "fnExactLengthsOf", fn := fun _ => fun
  | [d] => { results := [.lit (.bool true)], args := [d] }
  | _ => none }
def fnExactLengthsOfRow : OpenClaim := { program := "ytobbhgghpjecjaa", sum := "3402edb7578bf52a65483fd0bd96714f94df70923a9d6e1601f87763cbe98d5d", func := "loop.example/g00256/laws.FnExactLengthsOf", spec := "fnExactLengthsOf", unfollowed := true, recurses := true, apart := false }
def FnExactLengthsOfSaid : Prop := fnExactLengthsOfRow.holds Try.pinned (OpenSpec.ofChange fnExactLengthsOfSpec)

/-- ITS FALSE NEIGHBOUR: 'it returns false'. Refute it at one input. -/
def fnExactLengthsOfWrong : ChangeSpec := { name := "fnExactLengthsOf", fn := fun _ => fun
  | [d] => { results := [.lit (.bool false)], args := [d] }
  | _ => none }
def FnExactLengthsOfWrongFalsely : Prop := fnExactLengthsOfRow.holds Try.pinned (OpenSpec.ofChange fnExactLengthsOfWrong)

/-- 'laws.FnExactUnpackBits': WHATEVER THE INPUT: true; the input reads as it did. -/
def fnExactUnpackBitsSpec : ChangeSpec := { name := "fnExactUnpackBits", fn := fun _ => fun
  | [d1, d2] => { results := [.lit (.bool true)], args := [d1, d2] }
  | _ => none }
def fnExactUnpackBitsRow : OpenClaim := { program := "ytobbhgghpjecjaa", sum := "3402edb7578bf52a65483fd0bd96714f94df70923a9d6e1601f87763cbe98d5d", func := "loop.example/g00256/laws.FnExactUnpackBits", spec := "fnExactUnpackBits", inPlace := ["internal/abi.NoEscape", "internal/bytealg.IndexByteString", "internal/bytealg.IndexString"], named := ["internal/bytealg.MaxLen"], apart := false }
def FnExactUnpackBitsSaid : Prop := fnExactUnpackBitsRow.holds Try.pinned (OpenSpec.ofChange fnExactUnpackBitsSpec)

/-- ITS FALSE NEIGHBOUR: 'it returns false'. Refute it at one input. -/
def fnExactUnpackBitsWrong : ChangeSpec := { name := "fnExactUnpackBits", fn := fun _ => fun
  | [d1, d2] => { results := [.lit (.bool false)], args := [d1, d2] }
  | _ => none }
def FnExactUnpackBitsWrongFalsely : Prop := fnExactUnpackBitsRow.holds Try.pinned (OpenSpec.ofChange fnExactUnpackBitsWrong)

/- THE SECOND FORM. 'bulk': how many values and letters a reading holds, each counted each time it is reached (what is shared counts as often as it is met; a slice's spare places count too). A statement '..UptoSaid' is the law's where the arguments, and the package variables that the reading takes, are together of bulk at most 1048576: NARROWER than '..Said'. Prove '..Said' where nothing that the law and all that it calls make is longer than what came in: it says more and counts as full. Else prove '..UptoSaid'. A law counts once. -/
mutual
def uptoBulk {H : Type} : DataW H → Nat
  | .lit (.string bytes) => bytes.length + 1
  | .lit _ => 1
  | .nil => 1
  | .ptr d => uptoBulk d + 1
  | .slice elems spare => uptoBulkAll elems + uptoBulkAll spare + 1
  | .agg parts => uptoBulkAll parts + 1
  | .iface _ d => uptoBulk d + 1
  | .map entries => uptoBulkEntries entries + 1
  | .held _ => 1
def uptoBulkAll {H : Type} : List (DataW H) → Nat
  | [] => 0
  | d :: r => uptoBulk d + uptoBulkAll r
def uptoBulkEntries {H : Type} : List (Lit × DataW H) → Nat
  | [] => 0
  | x :: r => uptoBulkEntry x + uptoBulkEntries r
def uptoBulkEntry {H : Type} : Lit × DataW H → Nat
  | (.string bytes, d) => bytes.length + uptoBulk d + 1
  | (_, d) => uptoBulk d + 1
 end
def uptoSmall : (H : Type) → List (DataW H) → Bool := fun _ ds => decide (uptoBulkAll ds ≤ 1048576)
def OpenSpec.upto (s : _root_.Go.ChangeSpec) : _root_.Go.OpenSpec := { _root_.Go.OpenSpec.ofChange s with cond := some uptoSmall }

/-- 'laws.FnRate', WHERE WHAT IT READS IS OF BULK AT MOST 1048576: true; the input reads as it did. -/
def fnRateUptoRow : OpenClaim := { program := "ytobbhgghpjecjaa", sum := "3402edb7578bf52a65483fd0bd96714f94df70923a9d6e1601f87763cbe98d5d", func := "loop.example/g00256/laws.FnRate", spec := "fnRate", unfollowed := true, recurses := true, apart := false, narrowed := true }
def FnRateUptoSaid : Prop := fnRateUptoRow.holds Try.pinned (OpenSpec.upto fnRateSpec)

/-- 'laws.FnPaced', WHERE WHAT IT READS IS OF BULK AT MOST 1048576: true; the input reads as it did. -/
def fnPacedUptoRow : OpenClaim := { program := "ytobbhgghpjecjaa", sum := "3402edb7578bf52a65483fd0bd96714f94df70923a9d6e1601f87763cbe98d5d", func := "loop.example/g00256/laws.FnPaced", spec := "fnPaced", unfollowed := true, recurses := true, apart := false, narrowed := true }
def FnPacedUptoSaid : Prop := fnPacedUptoRow.holds Try.pinned (OpenSpec.upto fnPacedSpec)

/-- 'laws.FnCodes', WHERE WHAT IT READS IS OF BULK AT MOST 1048576: true; the input reads as it did. -/
def fnCodesUptoRow : OpenClaim := { program := "ytobbhgghpjecjaa", sum := "3402edb7578bf52a65483fd0bd96714f94df70923a9d6e1601f87763cbe98d5d", func := "loop.example/g00256/laws.FnCodes", spec := "fnCodes", unfollowed := true, recurses := true, apart := false, narrowed := true }
def FnCodesUptoSaid : Prop := fnCodesUptoRow.holds Try.pinned (OpenSpec.upto fnCodesSpec)

/-- 'laws.FnHuffman', WHERE WHAT IT READS IS OF BULK AT MOST 1048576: true; the input reads as it did. -/
def fnHuffmanUptoRow : OpenClaim := { program := "ytobbhgghpjecjaa", sum := "3402edb7578bf52a65483fd0bd96714f94df70923a9d6e1601f87763cbe98d5d", func := "loop.example/g00256/laws.FnHuffman", spec := "fnHuffman", unfollowed := true, recurses := true, apart := false, narrowed := true }
def FnHuffmanUptoSaid : Prop := fnHuffmanUptoRow.holds Try.pinned (OpenSpec.upto fnHuffmanSpec)

/-- 'laws.FnExactLengthsOf', WHERE WHAT IT READS IS OF BULK AT MOST 1048576: true; the input reads as it did. -/
def fnExactLengthsOfUptoRow : OpenClaim := { program := "ytobbhgghpjecjaa", sum := "3402edb7578bf52a65483fd0bd96714f94df70923a9d6e1601f87763cbe98d5d", func := "loop.example/g00256/laws.FnExactLengthsOf", spec := "fnExactLengthsOf", unfollowed := true, recurses := true, apart := false, narrowed := true }
def FnExactLengthsOfUptoSaid : Prop := fnExactLengthsOfUptoRow.holds Try.pinned (OpenSpec.upto fnExactLengthsOfSpec)

/-- 'laws.FnExactUnpackBits', WHERE WHAT IT READS IS OF BULK AT MOST 1048576: true; the input reads as it did. -/
def fnExactUnpackBitsUptoRow : OpenClaim := { program := "ytobbhgghpjecjaa", sum := "3402edb7578bf52a65483fd0bd96714f94df70923a9d6e1601f87763cbe98d5d", func := "loop.example/g00256/laws.FnExactUnpackBits", spec := "fnExactUnpackBits", inPlace := ["internal/abi.NoEscape", "internal/bytealg.IndexByteString", "internal/bytealg.IndexString"], named := ["internal/bytealg.MaxLen"], apart := false, narrowed := true }
def FnExactUnpackBitsUptoSaid : Prop := fnExactUnpackBitsUptoRow.holds Try.pinned (OpenSpec.upto fnExactUnpackBitsSpec)

end Rows
end Go.Proofs.Ytobbhgghpjecjaa
