-- Written by a program of this session, out of the words of the kit's print: those that are used.
import Derived.Test.YthednemidaegkaaVInv
import Derived.Test.YthednemidaegkaaVFootNe
namespace Go.Proofs.YthednemidaegkaaW.PrintWords
open Go.RowKit
end Go.Proofs.YthednemidaegkaaW.PrintWords
namespace Go.Proofs.YthednemidaegkaaW.PrintLast
section
variable {ops : Array Oper} {a : Act} {o og : Oper} {g : Nat} {t : Tmp} {u : Bool}
end
end Go.Proofs.YthednemidaegkaaW.PrintLast
