-- Written by a program of this session, out of the words of the kit's print: those that are used.
import Derived.Test.YtkikaiebmdadeaaVInv
import Derived.Test.YtkikaiebmdadeaaVFootNe
namespace Go.Proofs.YtkikaiebmdadeaaW.PrintWords
open Go.RowKit
end Go.Proofs.YtkikaiebmdadeaaW.PrintWords
namespace Go.Proofs.YtkikaiebmdadeaaW.PrintLast
section
variable {ops : Array Oper} {a : Act} {o og : Oper} {g : Nat} {t : Tmp} {u : Bool}
end
end Go.Proofs.YtkikaiebmdadeaaW.PrintLast
