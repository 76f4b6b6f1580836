/- The arguments of the law FnExactThreadNew: what is good of them; its pure statement. No condition. -/
import Derived.Test.YtmbkcbgbienjoaaStFnExactThreadNew
import Derived.Test.YtmbkcbgbienjoaaOpn
set_option linter.unusedVariables false
namespace Go.Proofs.Ytmbkcbgbienjoaa.OpnFnExactThreadNew
open Go Go.RowKit Go.Proofs.Ytmbkcbgbienjoaa.PFnExactThreadNew Go.Proofs.Ytmbkcbgbienjoaa.Opn

def G113 (x : S113) : Prop := (GI .i64) x.f0 ∧ (GI .i64) x.f1 ∧ GS x.f2 ∧ GS x.f3 ∧ GS x.f4 ∧ (GL (GI .i64)) x.f5
def G143 (x : S143) : Prop := GS x.f0 ∧ GS x.f1 ∧ (GI .i64) x.f2
def G117 (x : S117) : Prop := GS x.f0 ∧ (GL GS) x.f1 ∧ (GL GS) x.f2 ∧ (GL G143) x.f3
def G119 (x : S119) : Prop := GS x.f0 ∧ (GL GS) x.f1 ∧ (GL GS) x.f2 ∧ (GI .i64) x.f3
structure S26 where
  f0 : List S113
  f1 : List S117
  f2 : List S119
def G26 (x : S26) : Prop := (GL G113) x.f0 ∧ (GL G117) x.f1 ∧ (GL G119) x.f2
/-- THE PURE STATEMENT of FnExactThreadNew. -/
def Pure : Prop := ∀ (l0_0 : List S113) (l0_1 : List S117) (l0_2 : List S119) (a1 : Int) (l2 : List ByteArray), (GL G113) l0_0 → (GL G117) l0_1 → (GL G119) l0_2 → (GI .i64) a1 → (GL GS) l2 → ∃ k, laws_FnExactThreadNew.f k l0_0 l0_1 l0_2 a1 l2 = some true
end Go.Proofs.Ytmbkcbgbienjoaa.OpnFnExactThreadNew
