/- The arguments of the law FnExactSameProgram: what is good of them; its pure statement. No condition. -/
import Derived.Test.YtegeahiflkjhmaaStFnExactSameProgram
import Derived.Test.YtegeahiflkjhmaaOpn
set_option linter.unusedVariables false
namespace Go.Proofs.Ytegeahiflkjhmaa.OpnFnExactSameProgram
open Go Go.RowKit Go.Proofs.Ytegeahiflkjhmaa.PFnExactSameProgram Go.Proofs.Ytegeahiflkjhmaa.Opn

def G148 (x : S148) : Prop := (GI .i64) x.f0 ∧ (GI .i64) x.f1 ∧ GS x.f2 ∧ GS x.f3 ∧ GS x.f4 ∧ (GL (GI .i64)) x.f5
def G163 (x : S163) : Prop := GS x.f0 ∧ GS x.f1 ∧ (GI .i64) x.f2
def G152 (x : S152) : Prop := GS x.f0 ∧ (GL GS) x.f1 ∧ (GL GS) x.f2 ∧ (GL G163) x.f3
def G154 (x : S154) : Prop := GS x.f0 ∧ (GL GS) x.f1 ∧ (GL GS) x.f2 ∧ (GI .i64) x.f3
structure S66 where
  f0 : List S148
  f1 : List S152
  f2 : List S154
def G66 (x : S66) : Prop := (GL G148) x.f0 ∧ (GL G152) x.f1 ∧ (GL G154) x.f2
/-- THE PURE STATEMENT of FnExactSameProgram. -/
def Pure : Prop := ∀ (l0_0 : List S148) (l0_1 : List S152) (l0_2 : List S154) (l1_0 : List S148) (l1_1 : List S152) (l1_2 : List S154), (GL G148) l0_0 → (GL G152) l0_1 → (GL G154) l0_2 → (GL G148) l1_0 → (GL G152) l1_1 → (GL G154) l1_2 → ∃ k, laws_FnExactSameProgram.f k l0_0 l0_1 l0_2 l1_0 l1_1 l1_2 = some true
end Go.Proofs.Ytegeahiflkjhmaa.OpnFnExactSameProgram
