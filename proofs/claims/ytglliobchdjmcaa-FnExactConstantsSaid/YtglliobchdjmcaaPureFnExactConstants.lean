/- The pure side of the law FnExactConstants: what the printed functions tell is what the law says, for every input within the law's bounds. -/
import Derived.Test.YtglliobchdjmcaaPFnExactConstantsx1
import Derived.Test.YtglliobchdjmcaaBase
set_option linter.unusedVariables false
set_option linter.unusedSimpArgs false
namespace Go.Proofs.Ytglliobchdjmcaa.Pure
open Go.RowKit Go.Proofs.Ytglliobchdjmcaa.PFnExactConstants Go.Proofs.YtglliobchdjmcaaW.PrintWords Go.Proofs.YtglliobchdjmcaaW.PrintLast Go.Proofs.Ytglliobchdjmcaa.Base

theorem FnExactConstants : laws_FnExactConstants.Pure := rfl

end Go.Proofs.Ytglliobchdjmcaa.Pure
