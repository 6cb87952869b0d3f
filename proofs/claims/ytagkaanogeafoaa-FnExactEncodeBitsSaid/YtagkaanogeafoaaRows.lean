/-
  No cell of these rows narrows 'for every input' (looked for: loops, veiled, ifaces, maps, wideKeys, modest, calm, conditions, laid).
  DERIVED. THE GIVEN ROWS OF THIS SEAT. 12 by the template 'for every input the law returns true; each argument reads behind the call as it read before'; 0 by the template 'total and deterministic' (their statements: YtagkaanogeafoaaTotals.lean).
  GIVEN WITH THE SEED: the statements are not yours to turn. If you find one false, say at which input.
  Laid BY PROGRAM, IN A SANDBOX (cutbox-rows.mjs): the forced cells as the released guide's own fill.sh prints them over the translation bb0586b109aa0ca8… (all of the seat's roots in one cut). By AI agents, Wed Nov 11 2026. No macro, syntax, notation, axiom, sorry.
-/
import Derived.Test.YtagkaanogeafoaaChecked
import GoSem.Claim
import GoSem.ClaimJoined
import GoSem.ClaimMapViews
import Derived.JoinedTies
import Derived.KernelRfl
namespace Go.Proofs.Ytagkaanogeafoaa
/- THE CELL 'sum', in the pinned program and in every row, IS THE sha256 OF THE DUMP (.gsa) THAT YtagkaanogeafoaaProg.lean LOADS. Nothing in Lean hashes anything: it is a label: what it is worth is what the hold of that sum in a sandbox is worth. -/
noncomputable def Try.pinned : Pinned := { name := "ytagkaanogeafoaa", sum := "bb0586b109aa0ca8963745f3a3102a376af72d6d8a54b74de135e06e1a9b0c37", checked := Try.checked }
namespace Rows
def none {H : Type} : Left H := { results := [], args := [] }

/-- 'laws.FnExactMostIn': WHATEVER THE INPUT: true; the input reads as it did. -/
def fnExactMostInSpec : ChangeSpec := { name := "fnExactMostIn", fn := fun _ => fun
  | [d1, d2, d3] => { results := [.lit (.bool true)], args := [d1, d2, d3] }
  | _ => none }
def fnExactMostInRow : OpenClaim := { program := "ytagkaanogeafoaa", sum := "bb0586b109aa0ca8963745f3a3102a376af72d6d8a54b74de135e06e1a9b0c37", func := "loop.example/g00256/laws.FnExactMostIn", spec := "fnExactMostIn", apart := false }
def FnExactMostInSaid : Prop := fnExactMostInRow.holds Try.pinned (OpenSpec.ofChange fnExactMostInSpec)

/-- ITS FALSE NEIGHBOUR: 'it returns false'. Refute it at one input. -/
def fnExactMostInWrong : ChangeSpec := { name := "fnExactMostIn", fn := fun _ => fun
  | [d1, d2, d3] => { results := [.lit (.bool false)], args := [d1, d2, d3] }
  | _ => none }
def FnExactMostInWrongFalsely : Prop := fnExactMostInRow.holds Try.pinned (OpenSpec.ofChange fnExactMostInWrong)

/-- 'laws.FnExactNewPacer': WHATEVER THE INPUT: true; the input reads as it did. -/
def fnExactNewPacerSpec : ChangeSpec := { name := "fnExactNewPacer", fn := fun _ => fun
  | [d1, d2] => { results := [.lit (.bool true)], args := [d1, d2] }
  | _ => none }
def fnExactNewPacerRow : OpenClaim := { program := "ytagkaanogeafoaa", sum := "bb0586b109aa0ca8963745f3a3102a376af72d6d8a54b74de135e06e1a9b0c37", func := "loop.example/g00256/laws.FnExactNewPacer", spec := "fnExactNewPacer", apart := false }
def FnExactNewPacerSaid : Prop := fnExactNewPacerRow.holds Try.pinned (OpenSpec.ofChange fnExactNewPacerSpec)

/-- ITS FALSE NEIGHBOUR: 'it returns false'. Refute it at one input. -/
def fnExactNewPacerWrong : ChangeSpec := { name := "fnExactNewPacer", fn := fun _ => fun
  | [d1, d2] => { results := [.lit (.bool false)], args := [d1, d2] }
  | _ => none }
def FnExactNewPacerWrongFalsely : Prop := fnExactNewPacerRow.holds Try.pinned (OpenSpec.ofChange fnExactNewPacerWrong)

/-- 'laws.FnExactNewBucket': WHATEVER THE INPUT: true; the input reads as it did. -/
def fnExactNewBucketSpec : ChangeSpec := { name := "fnExactNewBucket", fn := fun _ => fun
  | [d1, d2] => { results := [.lit (.bool true)], args := [d1, d2] }
  | _ => none }
def fnExactNewBucketRow : OpenClaim := { program := "ytagkaanogeafoaa", sum := "bb0586b109aa0ca8963745f3a3102a376af72d6d8a54b74de135e06e1a9b0c37", func := "loop.example/g00256/laws.FnExactNewBucket", spec := "fnExactNewBucket", apart := false }
def FnExactNewBucketSaid : Prop := fnExactNewBucketRow.holds Try.pinned (OpenSpec.ofChange fnExactNewBucketSpec)

/-- ITS FALSE NEIGHBOUR: 'it returns false'. Refute it at one input. -/
def fnExactNewBucketWrong : ChangeSpec := { name := "fnExactNewBucket", fn := fun _ => fun
  | [d1, d2] => { results := [.lit (.bool false)], args := [d1, d2] }
  | _ => none }
def FnExactNewBucketWrongFalsely : Prop := fnExactNewBucketRow.holds Try.pinned (OpenSpec.ofChange fnExactNewBucketWrong)

/-- 'laws.FnExactWaitFor': WHATEVER THE INPUT: true; the input reads as it did. -/
def fnExactWaitForSpec : ChangeSpec := { name := "fnExactWaitFor", fn := fun _ => fun
  | [d1, d2] => { results := [.lit (.bool true)], args := [d1, d2] }
  | _ => none }
def fnExactWaitForRow : OpenClaim := { program := "ytagkaanogeafoaa", sum := "bb0586b109aa0ca8963745f3a3102a376af72d6d8a54b74de135e06e1a9b0c37", func := "loop.example/g00256/laws.FnExactWaitFor", spec := "fnExactWaitFor", apart := false }
def FnExactWaitForSaid : Prop := fnExactWaitForRow.holds Try.pinned (OpenSpec.ofChange fnExactWaitForSpec)

/-- ITS FALSE NEIGHBOUR: 'it returns false'. Refute it at one input. -/
def fnExactWaitForWrong : ChangeSpec := { name := "fnExactWaitFor", fn := fun _ => fun
  | [d1, d2] => { results := [.lit (.bool false)], args := [d1, d2] }
  | _ => none }
def FnExactWaitForWrongFalsely : Prop := fnExactWaitForRow.holds Try.pinned (OpenSpec.ofChange fnExactWaitForWrong)

/-- 'laws.FnExactTakePacer': WHATEVER THE INPUT: true; the input reads as it did. -/
def fnExactTakePacerSpec : ChangeSpec := { name := "fnExactTakePacer", fn := fun _ => fun
  | [d1, d2] => { results := [.lit (.bool true)], args := [d1, d2] }
  | _ => none }
def fnExactTakePacerRow : OpenClaim := { program := "ytagkaanogeafoaa", sum := "bb0586b109aa0ca8963745f3a3102a376af72d6d8a54b74de135e06e1a9b0c37", func := "loop.example/g00256/laws.FnExactTakePacer", spec := "fnExactTakePacer", apart := false }
def FnExactTakePacerSaid : Prop := fnExactTakePacerRow.holds Try.pinned (OpenSpec.ofChange fnExactTakePacerSpec)

/-- ITS FALSE NEIGHBOUR: 'it returns false'. Refute it at one input. -/
def fnExactTakePacerWrong : ChangeSpec := { name := "fnExactTakePacer", fn := fun _ => fun
  | [d1, d2] => { results := [.lit (.bool false)], args := [d1, d2] }
  | _ => none }
def FnExactTakePacerWrongFalsely : Prop := fnExactTakePacerRow.holds Try.pinned (OpenSpec.ofChange fnExactTakePacerWrong)

/-- 'laws.FnExactTakeBucket': WHATEVER THE INPUT: true; the input reads as it did. -/
def fnExactTakeBucketSpec : ChangeSpec := { name := "fnExactTakeBucket", fn := fun _ => fun
  | [d1, d2] => { results := [.lit (.bool true)], args := [d1, d2] }
  | _ => none }
def fnExactTakeBucketRow : OpenClaim := { program := "ytagkaanogeafoaa", sum := "bb0586b109aa0ca8963745f3a3102a376af72d6d8a54b74de135e06e1a9b0c37", func := "loop.example/g00256/laws.FnExactTakeBucket", spec := "fnExactTakeBucket", apart := false }
def FnExactTakeBucketSaid : Prop := fnExactTakeBucketRow.holds Try.pinned (OpenSpec.ofChange fnExactTakeBucketSpec)

/-- ITS FALSE NEIGHBOUR: 'it returns false'. Refute it at one input. -/
def fnExactTakeBucketWrong : ChangeSpec := { name := "fnExactTakeBucket", fn := fun _ => fun
  | [d1, d2] => { results := [.lit (.bool false)], args := [d1, d2] }
  | _ => none }
def FnExactTakeBucketWrongFalsely : Prop := fnExactTakeBucketRow.holds Try.pinned (OpenSpec.ofChange fnExactTakeBucketWrong)

/-- 'laws.FnExactKraftOf': WHATEVER THE INPUT: true; the input reads as it did. -/
def fnExactKraftOfSpec : ChangeSpec := { name := "fnExactKraftOf", fn := fun _ => fun
  | [d] => { results := [.lit (.bool true)], args := [d] }
  | _ => none }
def fnExactKraftOfRow : OpenClaim := { program := "ytagkaanogeafoaa", sum := "bb0586b109aa0ca8963745f3a3102a376af72d6d8a54b74de135e06e1a9b0c37", func := "loop.example/g00256/laws.FnExactKraftOf", spec := "fnExactKraftOf", unfollowed := true, recurses := true, apart := false }
def FnExactKraftOfSaid : Prop := fnExactKraftOfRow.holds Try.pinned (OpenSpec.ofChange fnExactKraftOfSpec)

/-- ITS FALSE NEIGHBOUR: 'it returns false'. Refute it at one input. -/
def fnExactKraftOfWrong : ChangeSpec := { name := "fnExactKraftOf", fn := fun _ => fun
  | [d] => { results := [.lit (.bool false)], args := [d] }
  | _ => none }
def FnExactKraftOfWrongFalsely : Prop := fnExactKraftOfRow.holds Try.pinned (OpenSpec.ofChange fnExactKraftOfWrong)

/-- 'laws.FnExactCostOf': WHATEVER THE INPUT: true; the input reads as it did. -/
def fnExactCostOfSpec : ChangeSpec := { name := "fnExactCostOf", fn := fun _ => fun
  | [d1, d2] => { results := [.lit (.bool true)], args := [d1, d2] }
  | _ => none }
def fnExactCostOfRow : OpenClaim := { program := "ytagkaanogeafoaa", sum := "bb0586b109aa0ca8963745f3a3102a376af72d6d8a54b74de135e06e1a9b0c37", func := "loop.example/g00256/laws.FnExactCostOf", spec := "fnExactCostOf", unfollowed := true, recurses := true, apart := false }
def FnExactCostOfSaid : Prop := fnExactCostOfRow.holds Try.pinned (OpenSpec.ofChange fnExactCostOfSpec)

/-- ITS FALSE NEIGHBOUR: 'it returns false'. Refute it at one input. -/
def fnExactCostOfWrong : ChangeSpec := { name := "fnExactCostOf", fn := fun _ => fun
  | [d1, d2] => { results := [.lit (.bool false)], args := [d1, d2] }
  | _ => none }
def FnExactCostOfWrongFalsely : Prop := fnExactCostOfRow.holds Try.pinned (OpenSpec.ofChange fnExactCostOfWrong)

/-- 'laws.FnExactPlayPacer': WHATEVER THE INPUT: true; the input reads as it did. -/
def fnExactPlayPacerSpec : ChangeSpec := { name := "fnExactPlayPacer", fn := fun _ => fun
  | [d1, d2, d3] => { results := [.lit (.bool true)], args := [d1, d2, d3] }
  | _ => none }
def fnExactPlayPacerRow : OpenClaim := { program := "ytagkaanogeafoaa", sum := "bb0586b109aa0ca8963745f3a3102a376af72d6d8a54b74de135e06e1a9b0c37", func := "loop.example/g00256/laws.FnExactPlayPacer", spec := "fnExactPlayPacer", unfollowed := true, recurses := true, apart := false }
def FnExactPlayPacerSaid : Prop := fnExactPlayPacerRow.holds Try.pinned (OpenSpec.ofChange fnExactPlayPacerSpec)

/-- ITS FALSE NEIGHBOUR: 'it returns false'. Refute it at one input. -/
def fnExactPlayPacerWrong : ChangeSpec := { name := "fnExactPlayPacer", fn := fun _ => fun
  | [d1, d2, d3] => { results := [.lit (.bool false)], args := [d1, d2, d3] }
  | _ => none }
def FnExactPlayPacerWrongFalsely : Prop := fnExactPlayPacerRow.holds Try.pinned (OpenSpec.ofChange fnExactPlayPacerWrong)

/-- 'laws.FnExactPlayBucket': WHATEVER THE INPUT: true; the input reads as it did. -/
def fnExactPlayBucketSpec : ChangeSpec := { name := "fnExactPlayBucket", fn := fun _ => fun
  | [d1, d2, d3] => { results := [.lit (.bool true)], args := [d1, d2, d3] }
  | _ => none }
def fnExactPlayBucketRow : OpenClaim := { program := "ytagkaanogeafoaa", sum := "bb0586b109aa0ca8963745f3a3102a376af72d6d8a54b74de135e06e1a9b0c37", func := "loop.example/g00256/laws.FnExactPlayBucket", spec := "fnExactPlayBucket", unfollowed := true, recurses := true, apart := false }
def FnExactPlayBucketSaid : Prop := fnExactPlayBucketRow.holds Try.pinned (OpenSpec.ofChange fnExactPlayBucketSpec)

/-- ITS FALSE NEIGHBOUR: 'it returns false'. Refute it at one input. -/
def fnExactPlayBucketWrong : ChangeSpec := { name := "fnExactPlayBucket", fn := fun _ => fun
  | [d1, d2, d3] => { results := [.lit (.bool false)], args := [d1, d2, d3] }
  | _ => none }
def FnExactPlayBucketWrongFalsely : Prop := fnExactPlayBucketRow.holds Try.pinned (OpenSpec.ofChange fnExactPlayBucketWrong)

/-- 'laws.FnExactCodesOf': WHATEVER THE INPUT: true; the input reads as it did. -/
def fnExactCodesOfSpec : ChangeSpec := { name := "fnExactCodesOf", fn := fun _ => fun
  | [d] => { results := [.lit (.bool true)], args := [d] }
  | _ => none }
def fnExactCodesOfRow : OpenClaim := { program := "ytagkaanogeafoaa", sum := "bb0586b109aa0ca8963745f3a3102a376af72d6d8a54b74de135e06e1a9b0c37", func := "loop.example/g00256/laws.FnExactCodesOf", spec := "fnExactCodesOf", unfollowed := true, recurses := true, apart := false }
def FnExactCodesOfSaid : Prop := fnExactCodesOfRow.holds Try.pinned (OpenSpec.ofChange fnExactCodesOfSpec)

/-- ITS FALSE NEIGHBOUR: 'it returns false'. Refute it at one input. -/
def fnExactCodesOfWrong : ChangeSpec := { name := "fnExactCodesOf", fn := fun _ => fun
  | [d] => { results := [.lit (.bool false)], args := [d] }
  | _ => none }
def FnExactCodesOfWrongFalsely : Prop := fnExactCodesOfRow.holds Try.pinned (OpenSpec.ofChange fnExactCodesOfWrong)

/-- 'laws.FnExactEncodeBits': WHATEVER THE INPUT: true; the input reads as it did. -/
def fnExactEncodeBitsSpec : ChangeSpec := { name := "fnExactEncodeBits", fn := fun _ => fun
  | [d1, d2] => { results := [.lit (.bool true)], args := [d1, d2] }
  | _ => none }
def fnExactEncodeBitsRow : OpenClaim := { program := "ytagkaanogeafoaa", sum := "bb0586b109aa0ca8963745f3a3102a376af72d6d8a54b74de135e06e1a9b0c37", func := "loop.example/g00256/laws.FnExactEncodeBits", spec := "fnExactEncodeBits", inPlace := ["internal/abi.NoEscape"], unfollowed := true, recurses := true, apart := false }
def FnExactEncodeBitsSaid : Prop := fnExactEncodeBitsRow.holds Try.pinned (OpenSpec.ofChange fnExactEncodeBitsSpec)

/-- ITS FALSE NEIGHBOUR: 'it returns false'. Refute it at one input. -/
def fnExactEncodeBitsWrong : ChangeSpec := { name := "fnExactEncodeBits", fn := fun _ => fun
  | [d1, d2] => { results := [.lit (.bool false)], args := [d1, d2] }
  | _ => none }
def FnExactEncodeBitsWrongFalsely : Prop := fnExactEncodeBitsRow.holds Try.pinned (OpenSpec.ofChange fnExactEncodeBitsWrong)

/- THE SECOND FORM. 'bulk': how many values and letters a reading holds, each counted each time it is reached (what is shared counts as often as it is met; a slice's spare places count too). A statement '..UptoSaid' is the law's where the arguments, and the package variables that the reading takes, are together of bulk at most 1048576: NARROWER than '..Said'. Prove '..Said' where nothing that the law and all that it calls make is longer than what came in: it says more and counts as full. Else prove '..UptoSaid'. A law counts once. -/
mutual
def uptoBulk {H : Type} : DataW H → Nat
  | .lit (.string bytes) => bytes.length + 1
  | .lit _ => 1
  | .nil => 1
  | .ptr d => uptoBulk d + 1
  | .slice elems spare => uptoBulkAll elems + uptoBulkAll spare + 1
  | .agg parts => uptoBulkAll parts + 1
  | .iface _ d => uptoBulk d + 1
  | .map entries => uptoBulkEntries entries + 1
  | .held _ => 1
def uptoBulkAll {H : Type} : List (DataW H) → Nat
  | [] => 0
  | d :: r => uptoBulk d + uptoBulkAll r
def uptoBulkEntries {H : Type} : List (Lit × DataW H) → Nat
  | [] => 0
  | x :: r => uptoBulkEntry x + uptoBulkEntries r
def uptoBulkEntry {H : Type} : Lit × DataW H → Nat
  | (.string bytes, d) => bytes.length + uptoBulk d + 1
  | (_, d) => uptoBulk d + 1
 end
def uptoSmall : (H : Type) → List (DataW H) → Bool := fun _ ds => decide (uptoBulkAll ds ≤ 1048576)
def OpenSpec.upto (s : _root_.Go.ChangeSpec) : _root_.Go.OpenSpec := { _root_.Go.OpenSpec.ofChange s with cond := some uptoSmall }

/-- 'laws.FnExactMostIn', WHERE WHAT IT READS IS OF BULK AT MOST 1048576: true; the input reads as it did. -/
def fnExactMostInUptoRow : OpenClaim := { program := "ytagkaanogeafoaa", sum := "bb0586b109aa0ca8963745f3a3102a376af72d6d8a54b74de135e06e1a9b0c37", func := "loop.example/g00256/laws.FnExactMostIn", spec := "fnExactMostIn", apart := false, narrowed := true }
def FnExactMostInUptoSaid : Prop := fnExactMostInUptoRow.holds Try.pinned (OpenSpec.upto fnExactMostInSpec)

/-- 'laws.FnExactNewPacer', WHERE WHAT IT READS IS OF BULK AT MOST 1048576: true; the input reads as it did. -/
def fnExactNewPacerUptoRow : OpenClaim := { program := "ytagkaanogeafoaa", sum := "bb0586b109aa0ca8963745f3a3102a376af72d6d8a54b74de135e06e1a9b0c37", func := "loop.example/g00256/laws.FnExactNewPacer", spec := "fnExactNewPacer", apart := false, narrowed := true }
def FnExactNewPacerUptoSaid : Prop := fnExactNewPacerUptoRow.holds Try.pinned (OpenSpec.upto fnExactNewPacerSpec)

/-- 'laws.FnExactNewBucket', WHERE WHAT IT READS IS OF BULK AT MOST 1048576: true; the input reads as it did. -/
def fnExactNewBucketUptoRow : OpenClaim := { program := "ytagkaanogeafoaa", sum := "bb0586b109aa0ca8963745f3a3102a376af72d6d8a54b74de135e06e1a9b0c37", func := "loop.example/g00256/laws.FnExactNewBucket", spec := "fnExactNewBucket", apart := false, narrowed := true }
def FnExactNewBucketUptoSaid : Prop := fnExactNewBucketUptoRow.holds Try.pinned (OpenSpec.upto fnExactNewBucketSpec)

/-- 'laws.FnExactWaitFor', WHERE WHAT IT READS IS OF BULK AT MOST 1048576: true; the input reads as it did. -/
def fnExactWaitForUptoRow : OpenClaim := { program := "ytagkaanogeafoaa", sum := "bb0586b109aa0ca8963745f3a3102a376af72d6d8a54b74de135e06e1a9b0c37", func := "loop.example/g00256/laws.FnExactWaitFor", spec := "fnExactWaitFor", apart := false, narrowed := true }
def FnExactWaitForUptoSaid : Prop := fnExactWaitForUptoRow.holds Try.pinned (OpenSpec.upto fnExactWaitForSpec)

/-- 'laws.FnExactTakePacer', WHERE WHAT IT READS IS OF BULK AT MOST 1048576: true; the input reads as it did. -/
def fnExactTakePacerUptoRow : OpenClaim := { program := "ytagkaanogeafoaa", sum := "bb0586b109aa0ca8963745f3a3102a376af72d6d8a54b74de135e06e1a9b0c37", func := "loop.example/g00256/laws.FnExactTakePacer", spec := "fnExactTakePacer", apart := false, narrowed := true }
def FnExactTakePacerUptoSaid : Prop := fnExactTakePacerUptoRow.holds Try.pinned (OpenSpec.upto fnExactTakePacerSpec)

/-- 'laws.FnExactTakeBucket', WHERE WHAT IT READS IS OF BULK AT MOST 1048576: true; the input reads as it did. -/
def fnExactTakeBucketUptoRow : OpenClaim := { program := "ytagkaanogeafoaa", sum := "bb0586b109aa0ca8963745f3a3102a376af72d6d8a54b74de135e06e1a9b0c37", func := "loop.example/g00256/laws.FnExactTakeBucket", spec := "fnExactTakeBucket", apart := false, narrowed := true }
def FnExactTakeBucketUptoSaid : Prop := fnExactTakeBucketUptoRow.holds Try.pinned (OpenSpec.upto fnExactTakeBucketSpec)

/-- 'laws.FnExactKraftOf', WHERE WHAT IT READS IS OF BULK AT MOST 1048576: true; the input reads as it did. -/
def fnExactKraftOfUptoRow : OpenClaim := { program := "ytagkaanogeafoaa", sum := "bb0586b109aa0ca8963745f3a3102a376af72d6d8a54b74de135e06e1a9b0c37", func := "loop.example/g00256/laws.FnExactKraftOf", spec := "fnExactKraftOf", unfollowed := true, recurses := true, apart := false, narrowed := true }
def FnExactKraftOfUptoSaid : Prop := fnExactKraftOfUptoRow.holds Try.pinned (OpenSpec.upto fnExactKraftOfSpec)

/-- 'laws.FnExactCostOf', WHERE WHAT IT READS IS OF BULK AT MOST 1048576: true; the input reads as it did. -/
def fnExactCostOfUptoRow : OpenClaim := { program := "ytagkaanogeafoaa", sum := "bb0586b109aa0ca8963745f3a3102a376af72d6d8a54b74de135e06e1a9b0c37", func := "loop.example/g00256/laws.FnExactCostOf", spec := "fnExactCostOf", unfollowed := true, recurses := true, apart := false, narrowed := true }
def FnExactCostOfUptoSaid : Prop := fnExactCostOfUptoRow.holds Try.pinned (OpenSpec.upto fnExactCostOfSpec)

/-- 'laws.FnExactPlayPacer', WHERE WHAT IT READS IS OF BULK AT MOST 1048576: true; the input reads as it did. -/
def fnExactPlayPacerUptoRow : OpenClaim := { program := "ytagkaanogeafoaa", sum := "bb0586b109aa0ca8963745f3a3102a376af72d6d8a54b74de135e06e1a9b0c37", func := "loop.example/g00256/laws.FnExactPlayPacer", spec := "fnExactPlayPacer", unfollowed := true, recurses := true, apart := false, narrowed := true }
def FnExactPlayPacerUptoSaid : Prop := fnExactPlayPacerUptoRow.holds Try.pinned (OpenSpec.upto fnExactPlayPacerSpec)

/-- 'laws.FnExactPlayBucket', WHERE WHAT IT READS IS OF BULK AT MOST 1048576: true; the input reads as it did. -/
def fnExactPlayBucketUptoRow : OpenClaim := { program := "ytagkaanogeafoaa", sum := "bb0586b109aa0ca8963745f3a3102a376af72d6d8a54b74de135e06e1a9b0c37", func := "loop.example/g00256/laws.FnExactPlayBucket", spec := "fnExactPlayBucket", unfollowed := true, recurses := true, apart := false, narrowed := true }
def FnExactPlayBucketUptoSaid : Prop := fnExactPlayBucketUptoRow.holds Try.pinned (OpenSpec.upto fnExactPlayBucketSpec)

/-- 'laws.FnExactCodesOf', WHERE WHAT IT READS IS OF BULK AT MOST 1048576: true; the input reads as it did. -/
def fnExactCodesOfUptoRow : OpenClaim := { program := "ytagkaanogeafoaa", sum := "bb0586b109aa0ca8963745f3a3102a376af72d6d8a54b74de135e06e1a9b0c37", func := "loop.example/g00256/laws.FnExactCodesOf", spec := "fnExactCodesOf", unfollowed := true, recurses := true, apart := false, narrowed := true }
def FnExactCodesOfUptoSaid : Prop := fnExactCodesOfUptoRow.holds Try.pinned (OpenSpec.upto fnExactCodesOfSpec)

/-- 'laws.FnExactEncodeBits', WHERE WHAT IT READS IS OF BULK AT MOST 1048576: true; the input reads as it did. -/
def fnExactEncodeBitsUptoRow : OpenClaim := { program := "ytagkaanogeafoaa", sum := "bb0586b109aa0ca8963745f3a3102a376af72d6d8a54b74de135e06e1a9b0c37", func := "loop.example/g00256/laws.FnExactEncodeBits", spec := "fnExactEncodeBits", inPlace := ["internal/abi.NoEscape"], unfollowed := true, recurses := true, apart := false, narrowed := true }
def FnExactEncodeBitsUptoSaid : Prop := fnExactEncodeBitsUptoRow.holds Try.pinned (OpenSpec.upto fnExactEncodeBitsSpec)

end Rows
end Go.Proofs.Ytagkaanogeafoaa
