/- The arguments of the law FnExactSignText: what is good of them; its pure statement. No condition. -/
import Derived.Test.YtppfilhlblnmcaaStFnExactSignText
import Derived.Test.YtppfilhlblnmcaaOpn
set_option linter.unusedVariables false
namespace Go.Proofs.Ytppfilhlblnmcaa.OpnFnExactSignText
open Go Go.RowKit Go.Proofs.Ytppfilhlblnmcaa.PFnExactSignText Go.Proofs.Ytppfilhlblnmcaa.Opn

def G56 (x : S56) : Prop := (GI .i64) x.f0 ∧ GS x.f1 ∧ (GI .i64) x.f2 ∧ (GI .i64) x.f3
/-- THE PURE STATEMENT of FnExactSignText. -/
def Pure : Prop := ∀ (l0 : List S56), (GL G56) l0 → ∃ k, laws_FnExactSignText.f k l0 = some true
end Go.Proofs.Ytppfilhlblnmcaa.OpnFnExactSignText
