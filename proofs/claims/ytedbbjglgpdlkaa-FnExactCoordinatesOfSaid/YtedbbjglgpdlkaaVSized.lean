-- Written by a program of this session, out of the words of the kit's print: those that are used.
import Derived.SizedLaws
import Derived.ChangeSlices
namespace Go.Proofs.YtedbbjglgpdlkaaW.PrintWords
open Go.ChangeShapes Go.WideShapes
end Go.Proofs.YtedbbjglgpdlkaaW.PrintWords
