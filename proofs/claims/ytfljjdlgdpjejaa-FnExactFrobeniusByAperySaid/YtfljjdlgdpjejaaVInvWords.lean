-- Written by a program of this session, out of the words of the kit's print: those that are used.
import Derived.Test.YtfljjdlgdpjejaaVInv
import Derived.Test.YtfljjdlgdpjejaaVFootNe
namespace Go.Proofs.YtfljjdlgdpjejaaW.PrintWords
open Go.RowKit
end Go.Proofs.YtfljjdlgdpjejaaW.PrintWords
namespace Go.Proofs.YtfljjdlgdpjejaaW.PrintLast
section
variable {ops : Array Oper} {a : Act} {o og : Oper} {g : Nat} {t : Tmp} {u : Bool}
end
end Go.Proofs.YtfljjdlgdpjejaaW.PrintLast
