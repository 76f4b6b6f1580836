/- The program's Denied answers as the reference's at every whole number. No condition. -/
import Derived.Test.YtkjedicbfpedmaaPFnExactDeniedx1
set_option linter.unusedVariables false
set_option linter.unusedSimpArgs false
namespace Go.Proofs.Ytkjedicbfpedmaa.Pure
open Go.RowKit Go.Proofs.Ytkjedicbfpedmaa.PFnExactDenied Go.Proofs.YtkjedicbfpedmaaW.PrintWords Go.Proofs.YtkjedicbfpedmaaW.PrintLast Go.Proofs.YtkjedicbfpedmaaW.PrintMore

theorem FnExactDenied : laws_FnExactDenied.Pure := by
  intro a0 _
  simp only [laws_FnExactDenied.f, spec_Denied.f, impl_Denied.f, spec_l03Bit.f, impl_truth.f]
  split <;> simp

end Go.Proofs.Ytkjedicbfpedmaa.Pure
