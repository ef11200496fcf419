-- Written by a program of this session, out of the words of the kit's print: those that are used.
import Derived.Test.YtedbbjglgpdlkaaVInv
import Derived.Test.YtedbbjglgpdlkaaVFootNe
namespace Go.Proofs.YtedbbjglgpdlkaaW.PrintWords
open Go.RowKit
end Go.Proofs.YtedbbjglgpdlkaaW.PrintWords
namespace Go.Proofs.YtedbbjglgpdlkaaW.PrintLast
section
variable {ops : Array Oper} {a : Act} {o og : Oper} {g : Nat} {t : Tmp} {u : Bool}
end
end Go.Proofs.YtedbbjglgpdlkaaW.PrintLast
