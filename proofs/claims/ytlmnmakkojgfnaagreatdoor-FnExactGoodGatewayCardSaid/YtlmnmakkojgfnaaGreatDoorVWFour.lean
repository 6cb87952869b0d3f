-- out of the printed words: what this claim's texts name
import Derived.Test.YtlmnmakkojgfnaaGreatDoorVWTab
namespace Go.Proofs.YtlmnmakkojgfnaaGreatDoorW.PrintLast
section
variable {P : Program} {ops : Array Oper} {Q : Exit → Act → World → Prop} {md : Region.Mode} {S : World → Prop} {ds : List Nat} {T : Bool × List (List Nat × List Nat)}
end
end Go.Proofs.YtlmnmakkojgfnaaGreatDoorW.PrintLast
