-- written by a program of this session (wip/tool)
import Derived.Test.YtobbhgghpjecjaaProg
import Derived.Below
import Derived.Deep.Draws
import Derived.Deep.AppendLies
import Derived.Maps.AppendAt
import Derived.OwnWalk
import Derived.Laws.BytesArg
import Derived.Laws.MakeOwn
import Derived.Laws.OwnMore
import Derived.Deep.OwnRows
import Derived.Tactics
import Derived.Lib.ConvBytes
import Derived.Laws.Slices
import Derived.WalkKit
import Derived.KernelRfl
import Derived.RowKit3
import Derived.Deep.LoopGhost
import Derived.Deep.QuietTactic
import Derived.BigQuiet
import Derived.WideLaws
import Derived.Deep.DeepCutAuto
import Derived.Deep.CutBlock
import Derived.Deep.RegionHeld3
import Derived.Laws.Rows
import Derived.Lib.AppendStr
import Derived.ArgAppend
import Derived.Laws.IdiomCopy
import Derived.OrdersHeld
import Derived.Laws.BitsLemmas
import Derived.RowKit
import Derived.Test.YtobbhgghpjecjaaWWords
import Derived.Test.YtobbhgghpjecjaaWLast
import Derived.Test.YtobbhgghpjecjaaWTab
import Derived.Test.YtobbhgghpjecjaaWFour
import Derived.Test.YtobbhgghpjecjaaWQPut
import Derived.Test.YtobbhgghpjecjaaWApart
import Derived.Test.YtobbhgghpjecjaaWArr
import Derived.Test.YtobbhgghpjecjaaWZeros
import Derived.Test.YtobbhgghpjecjaaWFoot
import Derived.Test.YtobbhgghpjecjaaWKept
import Derived.Test.YtobbhgghpjecjaaWShare
import Derived.Test.YtobbhgghpjecjaaWN
import Derived.Test.YtobbhgghpjecjaaWFootNe
import Derived.Test.YtobbhgghpjecjaaWAt
import Derived.Test.YtobbhgghpjecjaaWEqStruct
import Derived.Test.YtobbhgghpjecjaaWRepsOne
import Derived.Test.YtobbhgghpjecjaaWInv
import Derived.Test.YtobbhgghpjecjaaWInvWords
import Derived.Test.YtobbhgghpjecjaaWGuard
import Derived.Test.YtobbhgghpjecjaaWNEv
import Derived.Test.YtobbhgghpjecjaaWMore
import Derived.Test.YtobbhgghpjecjaaOwn0
import Derived.Test.YtobbhgghpjecjaaOwnOpen
import Derived.Test.YtobbhgghpjecjaaOwnBld
import Derived.WalkKit
import Derived.BigCall
namespace Go.Proofs.Ytobbhgghpjecjaa.PFnExactUnpackBits
open Go.RowKit Go.Proofs.YtobbhgghpjecjaaW.PrintWords Go.Proofs.YtobbhgghpjecjaaW.PrintLast Go.Proofs.YtobbhgghpjecjaaW.PrintMore Go.Shelf Go.Proofs.YtobbhgghpjecjaaOwn
attribute [local go_sem] max2_int min2_int max_two min_two max_three min_three max_four min_four   -- for this text's walks alone
set_option linter.unusedVariables false
set_option linter.unusedSimpArgs false



def errW : Option Int → Value
  | none => .nilIface
  | some c => .iface 0 (.int .i64 c)
theorem errW_none : errW none = .nilIface := rfl
theorem errW_some (c : Int) : errW (some c) = .iface 0 (.int .i64 c) := rfl

theorem info5 : (Try.prog.info? 5).map (fun i => (i.zero, i.size, i.bytes)) = some (some (.int .u8 0), 1, 1) := by kernel_rfl
-- the values' own types

end Go.Proofs.Ytobbhgghpjecjaa.PFnExactUnpackBits
