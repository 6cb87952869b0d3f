-- written by a program of this session (wip/tool)
import Derived.Test.YtfopmaiednikhaaDoorProg
import Derived.Below
import Derived.Deep.Draws
import Derived.Deep.AppendLies
import Derived.Maps.AppendAt
import Derived.OwnWalk
import Derived.Laws.BytesArg
import Derived.Laws.MakeOwn
import Derived.Laws.OwnMore
import Derived.Deep.OwnRows
import Derived.Tactics
import Derived.Lib.ConvBytes
import Derived.Laws.Slices
import Derived.WalkKit
import Derived.KernelRfl
import Derived.RowKit3
import Derived.Deep.LoopGhost
import Derived.Deep.QuietTactic
import Derived.BigQuiet
import Derived.WideLaws
import Derived.Deep.DeepCutAuto
import Derived.Deep.CutBlock
import Derived.Deep.RegionHeld3
import Derived.Laws.Rows
import Derived.Lib.AppendStr
import Derived.ArgAppend
import Derived.Laws.IdiomCopy
import Derived.OrdersHeld
import Derived.Laws.BitsLemmas
import Derived.RowKit
import Derived.Test.YtfopmaiednikhaaDoorWWords
import Derived.Test.YtfopmaiednikhaaDoorWLast
import Derived.Test.YtfopmaiednikhaaDoorWTab
import Derived.Test.YtfopmaiednikhaaDoorWFour
import Derived.Test.YtfopmaiednikhaaDoorWQPut
import Derived.Test.YtfopmaiednikhaaDoorWApart
import Derived.Test.YtfopmaiednikhaaDoorWArr
import Derived.Test.YtfopmaiednikhaaDoorWZeros
import Derived.Test.YtfopmaiednikhaaDoorWFoot
import Derived.Test.YtfopmaiednikhaaDoorWKept
import Derived.Test.YtfopmaiednikhaaDoorWShare
import Derived.Test.YtfopmaiednikhaaDoorWN
import Derived.Test.YtfopmaiednikhaaDoorWFootNe
import Derived.Test.YtfopmaiednikhaaDoorWAt
import Derived.Test.YtfopmaiednikhaaDoorWEqStruct
import Derived.Test.YtfopmaiednikhaaDoorWRepsOne
import Derived.Test.YtfopmaiednikhaaDoorWInv
import Derived.Test.YtfopmaiednikhaaDoorWInvWords
import Derived.Test.YtfopmaiednikhaaDoorWGuard
import Derived.Test.YtfopmaiednikhaaDoorWNEv
import Derived.Test.YtfopmaiednikhaaDoorWMore
import Derived.Test.YtfopmaiednikhaaDoorOwn0
import Derived.Test.YtfopmaiednikhaaDoorOwnOpen
import Derived.Test.YtfopmaiednikhaaDoorOwnRk
import Derived.WalkKit
import Derived.BigCall
import Derived.Deep.QuietTactic
namespace Go.Proofs.YtfopmaiednikhaaDoor.PFnRendezvous
open Go.RowKit Go.Proofs.YtfopmaiednikhaaDoorW.PrintWords Go.Proofs.YtfopmaiednikhaaDoorW.PrintLast Go.Proofs.YtfopmaiednikhaaDoorW.PrintMore Go.Shelf Go.Proofs.YtfopmaiednikhaaDoorOwn
attribute [local go_sem] max2_int min2_int max_two min_two max_three min_three max_four min_four   -- for this text's walks alone
set_option linter.unusedVariables false
set_option linter.unusedSimpArgs false



def errW : Option Int → Value
  | none => .nilIface
  | some c => .iface 0 (.int .i64 c)
theorem errW_none : errW none = .nilIface := rfl
theorem errW_some (c : Int) : errW (some c) = .iface 0 (.int .i64 c) := rfl

theorem info3 : (Tryd.prog.info? 3).map (fun i => (i.zero, i.size, i.bytes)) = some (some (.int .i64 0), 1, 8) := by kernel_rfl
theorem info5 : (Tryd.prog.info? 5).map (fun i => (i.zero, i.size, i.bytes)) = some (some (.int .u8 0), 1, 1) := by kernel_rfl
theorem info9 : (Tryd.prog.info? 9).map (fun i => (i.zero, i.size, i.bytes)) = some (some (.string ⟨#[]⟩), 1, 16) := by kernel_rfl
-- the values' own types

end Go.Proofs.YtfopmaiednikhaaDoor.PFnRendezvous
