/- The arguments of the law FnExactStepThread: what is good of them; its pure statement. No condition. -/
import Derived.Test.YtjjhknklnclokaaGreatStFnExactStepThread
import Derived.Test.YtjjhknklnclokaaGreatOpn
set_option linter.unusedVariables false
namespace Go.Proofs.YtjjhknklnclokaaGreat.OpnFnExactStepThread
open Go Go.RowKit Go.Proofs.YtjjhknklnclokaaGreat.PFnExactStepThread Go.Proofs.YtjjhknklnclokaaGreat.Opn

def G99 (x : S99) : Prop := (GI .i64) x.f0 ∧ (GI .i64) x.f1 ∧ GS x.f2 ∧ GS x.f3 ∧ GS x.f4 ∧ (GL (GI .i64)) x.f5
def G171 (x : S171) : Prop := GS x.f0 ∧ GS x.f1 ∧ (GI .i64) x.f2
def G103 (x : S103) : Prop := GS x.f0 ∧ (GL GS) x.f1 ∧ (GL GS) x.f2 ∧ (GL G171) x.f3
def G106 (x : S106) : Prop := GS x.f0 ∧ (GL GS) x.f1 ∧ (GL GS) x.f2 ∧ (GI .i64) x.f3
structure S26 where
  f0 : List S99
  f1 : List S103
  f2 : List S106
def G26 (x : S26) : Prop := (GL G99) x.f0 ∧ (GL G103) x.f1 ∧ (GL G106) x.f2
structure S41 where
  f0 : List ByteArray
  f1 : List Int
def G41 (x : S41) : Prop := (GL GS) x.f0 ∧ (GL (GI .i64)) x.f1
structure S43 where
  f0 : List Int
  f1 : S41
  f2 : Int
def G43 (x : S43) : Prop := (GL (GI .i64)) x.f0 ∧ G41 x.f1 ∧ (GI .i64) x.f2
/-- THE PURE STATEMENT of FnExactStepThread. -/
def Pure : Prop := ∀ (l0_0 : List S99) (l0_1 : List S103) (l0_2 : List S106) (l1_0 : List Int) (l1_1 : List ByteArray) (l1_2 : List Int) (a1_3 : Int), (GL G99) l0_0 → (GL G103) l0_1 → (GL G106) l0_2 → (GL (GI .i64)) l1_0 → (GL GS) l1_1 → (GL (GI .i64)) l1_2 → (GI .i64) a1_3 → ∃ k, laws_FnExactStepThread.f k l0_0 l0_1 l0_2 l1_0 l1_1 l1_2 a1_3 = some true
end Go.Proofs.YtjjhknklnclokaaGreat.OpnFnExactStepThread
