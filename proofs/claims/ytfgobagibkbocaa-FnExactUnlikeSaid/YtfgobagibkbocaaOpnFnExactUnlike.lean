/- The arguments of the law FnExactUnlike, opened: what they read as is a value of its kind. No condition beyond what the row gives. -/
import Derived.Test.YtfgobagibkbocaaPFnExactUnlikex2
import Derived.Test.YtfgobagibkbocaaOpn
set_option linter.unusedVariables false
set_option linter.unusedSimpArgs false
namespace Go.Proofs.Ytfgobagibkbocaa.OpnFnExactUnlike
open Go.RowKit Go.Proofs.Ytfgobagibkbocaa.PFnExactUnlike Go.Proofs.Ytfgobagibkbocaa.Opn Go.Proofs.YtfgobagibkbocaaW.PrintWords Go.Proofs.YtfgobagibkbocaaW.PrintLast Go.Proofs.YtfgobagibkbocaaW.PrintMore


/-- THE PURE STATEMENT of FnExactUnlike. -/
def Pure : Prop := ∀ (l0 : List ByteArray), (GL GS) l0 → ∃ k, laws_FnExactUnlike.f k l0 = some true
end Go.Proofs.Ytfgobagibkbocaa.OpnFnExactUnlike
