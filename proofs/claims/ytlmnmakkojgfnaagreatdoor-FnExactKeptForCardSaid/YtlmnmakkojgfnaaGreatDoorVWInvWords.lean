-- out of the printed words: what this claim's texts name
import Derived.Test.YtlmnmakkojgfnaaGreatDoorVWInv
import Derived.Test.YtlmnmakkojgfnaaGreatDoorVWFootNe
namespace Go.Proofs.YtlmnmakkojgfnaaGreatDoorW.PrintWords
open Go.RowKit
end Go.Proofs.YtlmnmakkojgfnaaGreatDoorW.PrintWords
namespace Go.Proofs.YtlmnmakkojgfnaaGreatDoorW.PrintLast
section
variable {ops : Array Oper} {a : Act} {o og : Oper} {g : Nat} {t : Tmp} {u : Bool}
end
end Go.Proofs.YtlmnmakkojgfnaaGreatDoorW.PrintLast
