-- Written by a program of this session, out of the words of the kit's print: those that are used.
import Derived.Test.YtbagfnppeidonaaVInv
import Derived.Test.YtbagfnppeidonaaVFootNe
namespace Go.Proofs.YtbagfnppeidonaaW.PrintWords
open Go.RowKit
end Go.Proofs.YtbagfnppeidonaaW.PrintWords
namespace Go.Proofs.YtbagfnppeidonaaW.PrintLast
section
variable {ops : Array Oper} {a : Act} {o og : Oper} {g : Nat} {t : Tmp} {u : Bool}
end
end Go.Proofs.YtbagfnppeidonaaW.PrintLast
