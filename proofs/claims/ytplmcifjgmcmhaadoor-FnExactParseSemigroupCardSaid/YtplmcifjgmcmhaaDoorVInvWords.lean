-- Written by a program of this session, out of the words of the kit's print: those that are used.
import Derived.Test.YtplmcifjgmcmhaaDoorVInv
import Derived.Test.YtplmcifjgmcmhaaDoorVFootNe
namespace Go.Proofs.YtplmcifjgmcmhaaDoorW.PrintWords
open Go.RowKit
end Go.Proofs.YtplmcifjgmcmhaaDoorW.PrintWords
namespace Go.Proofs.YtplmcifjgmcmhaaDoorW.PrintLast
section
variable {ops : Array Oper} {a : Act} {o og : Oper} {g : Nat} {t : Tmp} {u : Bool}
end
end Go.Proofs.YtplmcifjgmcmhaaDoorW.PrintLast
