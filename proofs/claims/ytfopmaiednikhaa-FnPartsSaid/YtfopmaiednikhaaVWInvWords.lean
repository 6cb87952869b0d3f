-- out of the printed words: what this claim's texts name
import Derived.Test.YtfopmaiednikhaaVWInv
import Derived.Test.YtfopmaiednikhaaVWFootNe
namespace Go.Proofs.YtfopmaiednikhaaW.PrintWords
open Go.RowKit
end Go.Proofs.YtfopmaiednikhaaW.PrintWords
namespace Go.Proofs.YtfopmaiednikhaaW.PrintLast
section
variable {ops : Array Oper} {a : Act} {o og : Oper} {g : Nat} {t : Tmp} {u : Bool}
end
end Go.Proofs.YtfopmaiednikhaaW.PrintLast
