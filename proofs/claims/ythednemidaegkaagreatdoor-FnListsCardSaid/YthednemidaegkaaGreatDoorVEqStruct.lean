-- Written by a program of this session, out of the words of the kit's print: those that are used.
import Derived.Test.YthednemidaegkaaGreatDoorVWords
import Derived.Laws.StructEq
namespace Go.Proofs.YthednemidaegkaaGreatDoorW.PrintWords
open Go.RowKit
section
variable {P : Program} {d : Nat} {xs ys : Array Value} {f : Field} {fs : List Field} {a b : Value} {r s : Bool} {w : World}
end
end Go.Proofs.YthednemidaegkaaGreatDoorW.PrintWords
