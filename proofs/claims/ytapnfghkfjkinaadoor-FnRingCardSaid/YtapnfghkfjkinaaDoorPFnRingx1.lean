-- written by a program of this session (wip/tool)
import Derived.Test.YtapnfghkfjkinaaDoorPFnRingx0
import Derived.Test.YtapnfghkfjkinaaDoorOwn0
import Derived.Test.YtapnfghkfjkinaaDoorOwnOpen
import Derived.Test.YtapnfghkfjkinaaDoorOwnRg
import Derived.WalkKit
import Derived.BigCall
import Derived.Deep.QuietTactic
namespace Go.Proofs.YtapnfghkfjkinaaDoor.PFnRing
open Go.RowKit Go.Proofs.YtapnfghkfjkinaaDoorW.PrintWords Go.Proofs.YtapnfghkfjkinaaDoorW.PrintLast Go.Proofs.YtapnfghkfjkinaaDoorW.PrintMore Go.Shelf Go.Proofs.YtapnfghkfjkinaaDoorOwn
attribute [local go_sem] max2_int min2_int max_two min_two max_three min_three max_four min_four   -- for this text's walks alone
set_option linter.unusedVariables false
set_option linter.unusedSimpArgs false

theorem eqA31 (d : Nat) (w : World) (x0 y0 : Int) (x1 y1 : Int) :
    (Op.equalIn (d + 2) 31 (.agg #[.int .u32 x0, .int .i64 x1]) (.agg #[.int .u32 y0, .int .i64 y1])).run Tryd.prog w = .ok (x0 == y0 && (x1 == y1)) w := by
  refine eqA_of Tryd.underlying31 (by kernel_rfl) ?_
  refine eqf_cons (by rfl) (by go_simp; rfl) (by go_simp; rfl) (by go_simp) ?_
  exact eqf_last (by rfl) (by go_simp; rfl) (by go_simp; rfl) (by go_simp)
end Go.Proofs.YtapnfghkfjkinaaDoor.PFnRing
