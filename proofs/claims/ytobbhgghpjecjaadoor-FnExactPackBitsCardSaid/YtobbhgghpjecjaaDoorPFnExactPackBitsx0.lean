-- written by a program of this session (wip/tool)
import Derived.Test.YtobbhgghpjecjaaDoorProg
import Derived.Below
import Derived.Deep.Draws
import Derived.Deep.AppendLies
import Derived.Maps.AppendAt
import Derived.OwnWalk
import Derived.Laws.BytesArg
import Derived.Laws.MakeOwn
import Derived.Laws.OwnMore
import Derived.Deep.OwnRows
import Derived.Tactics
import Derived.Lib.ConvBytes
import Derived.Laws.Slices
import Derived.WalkKit
import Derived.KernelRfl
import Derived.RowKit3
import Derived.Deep.LoopGhost
import Derived.Deep.QuietTactic
import Derived.BigQuiet
import Derived.WideLaws
import Derived.Deep.DeepCutAuto
import Derived.Deep.CutBlock
import Derived.Deep.RegionHeld3
import Derived.Laws.Rows
import Derived.Lib.AppendStr
import Derived.ArgAppend
import Derived.Laws.IdiomCopy
import Derived.OrdersHeld
import Derived.Laws.BitsLemmas
import Derived.RowKit
import Derived.Test.YtobbhgghpjecjaaDoorWWords
import Derived.Test.YtobbhgghpjecjaaDoorWLast
import Derived.Test.YtobbhgghpjecjaaDoorWTab
import Derived.Test.YtobbhgghpjecjaaDoorWFour
import Derived.Test.YtobbhgghpjecjaaDoorWQPut
import Derived.Test.YtobbhgghpjecjaaDoorWApart
import Derived.Test.YtobbhgghpjecjaaDoorWArr
import Derived.Test.YtobbhgghpjecjaaDoorWZeros
import Derived.Test.YtobbhgghpjecjaaDoorWFoot
import Derived.Test.YtobbhgghpjecjaaDoorWKept
import Derived.Test.YtobbhgghpjecjaaDoorWShare
import Derived.Test.YtobbhgghpjecjaaDoorWN
import Derived.Test.YtobbhgghpjecjaaDoorWFootNe
import Derived.Test.YtobbhgghpjecjaaDoorWAt
import Derived.Test.YtobbhgghpjecjaaDoorWEqStruct
import Derived.Test.YtobbhgghpjecjaaDoorWRepsOne
import Derived.Test.YtobbhgghpjecjaaDoorWInv
import Derived.Test.YtobbhgghpjecjaaDoorWInvWords
import Derived.Test.YtobbhgghpjecjaaDoorWGuard
import Derived.Test.YtobbhgghpjecjaaDoorWNEv
import Derived.Test.YtobbhgghpjecjaaDoorWMore
import Derived.Test.YtobbhgghpjecjaaDoorOwn0
import Derived.Test.YtobbhgghpjecjaaDoorOwnOpen
import Derived.Test.YtobbhgghpjecjaaDoorOwnDec
import Derived.Test.YtobbhgghpjecjaaDoorOwnRep
import Derived.WalkKit
import Derived.BigCall
namespace Go.Proofs.YtobbhgghpjecjaaDoor.PFnExactPackBits
open Go.RowKit Go.Proofs.YtobbhgghpjecjaaDoorW.PrintWords Go.Proofs.YtobbhgghpjecjaaDoorW.PrintLast Go.Proofs.YtobbhgghpjecjaaDoorW.PrintMore Go.Shelf Go.Proofs.YtobbhgghpjecjaaDoorOwn
attribute [local go_sem] max2_int min2_int max_two min_two max_three min_three max_four min_four   -- for this text's walks alone
set_option linter.unusedVariables false
set_option linter.unusedSimpArgs false



def errW : Option Int → Value
  | none => .nilIface
  | some c => .iface 0 (.int .i64 c)
theorem errW_none : errW none = .nilIface := rfl
theorem errW_some (c : Int) : errW (some c) = .iface 0 (.int .i64 c) := rfl

theorem info5 : (Tryd.prog.info? 5).map (fun i => (i.zero, i.size, i.bytes)) = some (some (.int .u8 0), 1, 1) := by kernel_rfl
-- the values' own types

end Go.Proofs.YtobbhgghpjecjaaDoor.PFnExactPackBits
