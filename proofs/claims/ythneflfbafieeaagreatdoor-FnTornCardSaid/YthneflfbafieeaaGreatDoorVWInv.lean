-- out of the printed words: what this claim's texts name
import Derived.Test.YthneflfbafieeaaGreatDoorVWTab
namespace Go.Proofs.YthneflfbafieeaaGreatDoorW.PrintLast
section
variable {P : Program} {ops : Array Oper} {Q : Exit → Act → World → Prop} {md : Region.Mode} {T : Bool × List (List Nat × List Nat)} {B : List Nat} {O : List Nat} {b : Nat → Bool} {i j n : Nat}
end
end Go.Proofs.YthneflfbafieeaaGreatDoorW.PrintLast
