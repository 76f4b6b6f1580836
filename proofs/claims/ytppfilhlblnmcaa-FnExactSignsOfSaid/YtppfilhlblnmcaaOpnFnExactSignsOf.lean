/- The arguments of the law FnExactSignsOf: what is good of them; its pure statement. No condition. -/
import Derived.Test.YtppfilhlblnmcaaStFnExactSignsOf
import Derived.Test.YtppfilhlblnmcaaOpn
set_option linter.unusedVariables false
namespace Go.Proofs.Ytppfilhlblnmcaa.OpnFnExactSignsOf
open Go Go.RowKit Go.Proofs.Ytppfilhlblnmcaa.PFnExactSignsOf Go.Proofs.Ytppfilhlblnmcaa.Opn

/-- THE PURE STATEMENT of FnExactSignsOf. -/
def Pure : Prop := ∀ (a0 : ByteArray), a0.size ≤ 140737488351232 → ∃ k, laws_FnExactSignsOf.f k a0 = some true
end Go.Proofs.Ytppfilhlblnmcaa.OpnFnExactSignsOf
