-- Written by a program of this session, out of the words of the kit's print: those that are used.
import Derived.Test.YthednemidaegkaaDoorVInv
import Derived.Test.YthednemidaegkaaDoorVFootNe
namespace Go.Proofs.YthednemidaegkaaDoorW.PrintWords
open Go.RowKit
end Go.Proofs.YthednemidaegkaaDoorW.PrintWords
namespace Go.Proofs.YthednemidaegkaaDoorW.PrintLast
section
variable {ops : Array Oper} {a : Act} {o og : Oper} {g : Nat} {t : Tmp} {u : Bool}
end
end Go.Proofs.YthednemidaegkaaDoorW.PrintLast
