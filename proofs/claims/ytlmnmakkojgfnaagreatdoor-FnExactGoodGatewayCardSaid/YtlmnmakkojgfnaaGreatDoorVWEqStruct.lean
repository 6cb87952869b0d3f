-- out of the printed words: what this claim's texts name
import Derived.Test.YtlmnmakkojgfnaaGreatDoorVWWords
import Derived.Laws.StructEq
namespace Go.Proofs.YtlmnmakkojgfnaaGreatDoorW.PrintWords
open Go.RowKit
section
variable {P : Program} {d : Nat} {xs ys : Array Value} {f : Field} {fs : List Field} {a b : Value} {r s : Bool} {w : World}
end
end Go.Proofs.YtlmnmakkojgfnaaGreatDoorW.PrintWords
