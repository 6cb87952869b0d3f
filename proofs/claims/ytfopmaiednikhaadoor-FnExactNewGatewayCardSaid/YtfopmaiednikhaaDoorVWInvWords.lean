-- out of the printed words: what this claim's texts name
import Derived.Test.YtfopmaiednikhaaDoorVWInv
import Derived.Test.YtfopmaiednikhaaDoorVWFootNe
namespace Go.Proofs.YtfopmaiednikhaaDoorW.PrintWords
open Go.RowKit
end Go.Proofs.YtfopmaiednikhaaDoorW.PrintWords
namespace Go.Proofs.YtfopmaiednikhaaDoorW.PrintLast
section
variable {ops : Array Oper} {a : Act} {o og : Oper} {g : Nat} {t : Tmp} {u : Bool}
end
end Go.Proofs.YtfopmaiednikhaaDoorW.PrintLast
