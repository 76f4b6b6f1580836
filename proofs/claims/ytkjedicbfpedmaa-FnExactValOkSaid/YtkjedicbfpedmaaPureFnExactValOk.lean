/- The program's ValOk answers as the reference's at every whole number. No condition. -/
import Derived.Test.YtkjedicbfpedmaaPFnExactValOkx1
set_option linter.unusedVariables false
set_option linter.unusedSimpArgs false
namespace Go.Proofs.Ytkjedicbfpedmaa.Pure
open Go.RowKit Go.Proofs.Ytkjedicbfpedmaa.PFnExactValOk Go.Proofs.YtkjedicbfpedmaaW.PrintWords Go.Proofs.YtkjedicbfpedmaaW.PrintLast Go.Proofs.YtkjedicbfpedmaaW.PrintMore

theorem FnExactValOk : laws_FnExactValOk.Pure := by
  intro a0 _
  simp only [laws_FnExactValOk.f, spec_ValOk.f, impl_ValOk.f, spec_l01In.f, impl_within.f]
  split <;> simp

end Go.Proofs.Ytkjedicbfpedmaa.Pure
