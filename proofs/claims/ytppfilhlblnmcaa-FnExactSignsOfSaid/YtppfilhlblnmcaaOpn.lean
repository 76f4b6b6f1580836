/- What is good of a value that came in. No condition. -/
import GoSem.Step
import GoSem.ClaimChange
namespace Go.Proofs.Ytppfilhlblnmcaa.Opn
open Go
def GI (k : IntKind) (a : Int) : Prop := (Lit.int k a).wf = true
def GB (_ : Bool) : Prop := True
def GS (a : ByteArray) : Prop := a.size ≤ 9223372036854775807
def GL {α : Type} (G : α → Prop) (l : List α) : Prop := l.length ≤ 9223372036854775807 ∧ ∀ x ∈ l, G x
end Go.Proofs.Ytppfilhlblnmcaa.Opn
