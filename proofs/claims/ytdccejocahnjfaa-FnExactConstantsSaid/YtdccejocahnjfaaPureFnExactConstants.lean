/- The program's constants are the reference's. No condition. -/
import Derived.Test.YtdccejocahnjfaaPFnExactConstantsx1
import Derived.Test.YtdccejocahnjfaaM0
namespace Go.Proofs.Ytdccejocahnjfaa.PFnExactConstants
open Go.RowKit Go.Proofs.YtdccejocahnjfaaW.PrintWords Go.Proofs.YtdccejocahnjfaaW.PrintLast Go.Proofs.YtdccejocahnjfaaW.PrintMore Go.Proofs.YtdccejocahnjfaaM
set_option linter.unusedVariables false
set_option linter.unusedSimpArgs false

end Go.Proofs.Ytdccejocahnjfaa.PFnExactConstants
namespace Go.Proofs.Ytdccejocahnjfaa.Pure
open Go.RowKit Go.Proofs.YtdccejocahnjfaaW.PrintWords Go.Proofs.YtdccejocahnjfaaW.PrintLast Go.Proofs.YtdccejocahnjfaaW.PrintMore Go.Proofs.YtdccejocahnjfaaM
set_option linter.unusedVariables false
set_option linter.unusedSimpArgs false
open Go.Proofs.Ytdccejocahnjfaa.PFnExactConstants
theorem FnExactConstants : laws_FnExactConstants.Pure := rfl

end Go.Proofs.Ytdccejocahnjfaa.Pure
