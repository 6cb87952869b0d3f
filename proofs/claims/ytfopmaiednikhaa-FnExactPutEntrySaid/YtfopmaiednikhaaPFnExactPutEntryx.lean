-- written by a program of this session (wip/tool)
import Derived.Test.YtfopmaiednikhaaPFnExactPutEntryx0
import Derived.Test.YtfopmaiednikhaaPFnExactPutEntryx1
import Derived.Test.YtfopmaiednikhaaPFnExactPutEntryx2
import Derived.Test.YtfopmaiednikhaaPFnExactPutEntryx3
import Derived.Test.YtfopmaiednikhaaPFnExactPutEntryx4
import Derived.Test.YtfopmaiednikhaaPFnExactPutEntryx5
import Derived.Test.YtfopmaiednikhaaPFnExactPutEntryx6
import Derived.Test.YtfopmaiednikhaaPFnExactPutEntryx7
import Derived.Test.YtfopmaiednikhaaPFnExactPutEntryx8
import Derived.Test.YtfopmaiednikhaaPFnExactPutEntryx9
import Derived.Test.YtfopmaiednikhaaPFnExactPutEntryx10
import Derived.Test.YtfopmaiednikhaaPFnExactPutEntryx11
import Derived.Test.YtfopmaiednikhaaVOwn0
import Derived.Test.YtfopmaiednikhaaVOwnOpen
import Derived.WalkKit
import Derived.BigCall
import Derived.Lib.SliceRun
import Derived.Deep.RegionLaw
import Derived.Maps.OwnSet
import Derived.Maps.OwnOps
import Derived.Maps.Views
import Derived.Test.YtfopmaiednikhaaVWZeros
import Derived.Test.YtfopmaiednikhaaVWArr
import Derived.Test.YtfopmaiednikhaaVOwnShort
namespace Go.Proofs.Ytfopmaiednikhaa.PFnExactPutEntry
open Go.RowKit Go.Proofs.YtfopmaiednikhaaW.PrintWords Go.Proofs.YtfopmaiednikhaaW.PrintLast Go.Proofs.YtfopmaiednikhaaW.PrintMore Go.Shelf Go.Proofs.YtfopmaiednikhaaOwn
attribute [local go_sem] max2_int min2_int max_two min_two max_three min_three max_four min_four   -- for this text's walks alone
set_option linter.unusedVariables false
set_option linter.unusedSimpArgs false

end Go.Proofs.Ytfopmaiednikhaa.PFnExactPutEntry
