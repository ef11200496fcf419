-- Written by a program of this session, out of the words of the kit's print: those that are used.
import Derived.Test.YthednemidaegkaaGreatDoorVInv
import Derived.Test.YthednemidaegkaaGreatDoorVFootNe
namespace Go.Proofs.YthednemidaegkaaGreatDoorW.PrintWords
open Go.RowKit
end Go.Proofs.YthednemidaegkaaGreatDoorW.PrintWords
namespace Go.Proofs.YthednemidaegkaaGreatDoorW.PrintLast
section
variable {ops : Array Oper} {a : Act} {o og : Oper} {g : Nat} {t : Tmp} {u : Bool}
end
end Go.Proofs.YthednemidaegkaaGreatDoorW.PrintLast
