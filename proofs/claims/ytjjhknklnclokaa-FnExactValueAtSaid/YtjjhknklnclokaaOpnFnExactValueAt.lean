/- The arguments of the law FnExactValueAt: what is good of them; its pure statement. No condition. -/
import Derived.Test.YtjjhknklnclokaaStFnExactValueAt
import Derived.Test.YtjjhknklnclokaaOpn
set_option linter.unusedVariables false
namespace Go.Proofs.Ytjjhknklnclokaa.OpnFnExactValueAt
open Go Go.RowKit Go.Proofs.Ytjjhknklnclokaa.PFnExactValueAt Go.Proofs.Ytjjhknklnclokaa.Opn

def G72 (x : S72) : Prop := (GI .i64) x.f0 ∧ (GI .i64) x.f1 ∧ GS x.f2 ∧ GS x.f3 ∧ GS x.f4 ∧ (GL (GI .i64)) x.f5
def G109 (x : S109) : Prop := GS x.f0 ∧ GS x.f1 ∧ (GI .i64) x.f2
def G76 (x : S76) : Prop := GS x.f0 ∧ (GL GS) x.f1 ∧ (GL GS) x.f2 ∧ (GL G109) x.f3
def G79 (x : S79) : Prop := GS x.f0 ∧ (GL GS) x.f1 ∧ (GL GS) x.f2 ∧ (GI .i64) x.f3
structure S26 where
  f0 : List S72
  f1 : List S76
  f2 : List S79
def G26 (x : S26) : Prop := (GL G72) x.f0 ∧ (GL G76) x.f1 ∧ (GL G79) x.f2
structure S30 where
  f0 : List ByteArray
  f1 : List Int
def G30 (x : S30) : Prop := (GL GS) x.f0 ∧ (GL (GI .i64)) x.f1
structure S32 where
  f0 : List Int
  f1 : S30
  f2 : Int
def G32 (x : S32) : Prop := (GL (GI .i64)) x.f0 ∧ G30 x.f1 ∧ (GI .i64) x.f2
/-- THE PURE STATEMENT of FnExactValueAt. -/
def Pure : Prop := ∀ (l0_0 : List S72) (l0_1 : List S76) (l0_2 : List S79) (l1_0 : List Int) (l1_1 : List ByteArray) (l1_2 : List Int) (a1_3 : Int), (GL G72) l0_0 → (GL G76) l0_1 → (GL G79) l0_2 → (GL (GI .i64)) l1_0 → (GL GS) l1_1 → (GL (GI .i64)) l1_2 → (GI .i64) a1_3 → ∃ k, laws_FnExactValueAt.f k l0_0 l0_1 l0_2 l1_0 l1_1 l1_2 a1_3 = some true
end Go.Proofs.Ytjjhknklnclokaa.OpnFnExactValueAt
