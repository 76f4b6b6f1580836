/- The program's Negated answers as the reference's at every whole number. No condition. -/
import Derived.Test.YtkjedicbfpedmaaPFnExactNegatedx1
set_option linter.unusedVariables false
set_option linter.unusedSimpArgs false
namespace Go.Proofs.Ytkjedicbfpedmaa.Pure
open Go.RowKit Go.Proofs.Ytkjedicbfpedmaa.PFnExactNegated Go.Proofs.YtkjedicbfpedmaaW.PrintWords Go.Proofs.YtkjedicbfpedmaaW.PrintLast Go.Proofs.YtkjedicbfpedmaaW.PrintMore

theorem FnExactNegated : laws_FnExactNegated.Pure := by
  intro a0 _
  simp only [laws_FnExactNegated.f, spec_Negated.f, impl_Negated.f, spec_ValOk.f, impl_ValOk.f, spec_l01In.f, impl_within.f]
  split
  · simp only [Option.bind_some]
    split <;> simp
  · simp

end Go.Proofs.Ytkjedicbfpedmaa.Pure
