-- out of the printed words: what this claim's texts name
import Derived.Test.YthneflfbafieeaaGreatDoorVWInv
import Derived.Test.YthneflfbafieeaaGreatDoorVWFootNe
namespace Go.Proofs.YthneflfbafieeaaGreatDoorW.PrintWords
open Go.RowKit
end Go.Proofs.YthneflfbafieeaaGreatDoorW.PrintWords
namespace Go.Proofs.YthneflfbafieeaaGreatDoorW.PrintLast
section
variable {ops : Array Oper} {a : Act} {o og : Oper} {g : Nat} {t : Tmp} {u : Bool}
end
end Go.Proofs.YthneflfbafieeaaGreatDoorW.PrintLast
