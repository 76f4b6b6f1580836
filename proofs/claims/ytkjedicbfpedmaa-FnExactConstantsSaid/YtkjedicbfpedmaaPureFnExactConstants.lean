/- The program's constants are the reference's. No condition. -/
import Derived.Test.YtkjedicbfpedmaaPFnExactConstantsx1
set_option linter.unusedVariables false
set_option linter.unusedSimpArgs false
namespace Go.Proofs.Ytkjedicbfpedmaa.Pure
open Go.RowKit Go.Proofs.Ytkjedicbfpedmaa.PFnExactConstants Go.Proofs.YtkjedicbfpedmaaW.PrintWords Go.Proofs.YtkjedicbfpedmaaW.PrintLast Go.Proofs.YtkjedicbfpedmaaW.PrintMore

theorem FnExactConstants : laws_FnExactConstants.Pure := rfl

end Go.Proofs.Ytkjedicbfpedmaa.Pure
