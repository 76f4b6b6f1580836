/- Short lemmas for the printed texts: what the same long row of steps proves in many places, told once. No condition beyond each lemma's own. -/
import Derived.Test.YtegeahiflkjhmaaWWords
import Derived.Test.YtegeahiflkjhmaaWLast
import Derived.Test.YtegeahiflkjhmaaWApart
import Derived.Test.YtegeahiflkjhmaaWFootNe
import Derived.Test.YtegeahiflkjhmaaWMore
namespace Go.Proofs.Ytegeahiflkjhmaa.Cmp
open Go.RowKit Go.Proofs.YtegeahiflkjhmaaW.PrintWords Go.Proofs.YtegeahiflkjhmaaW.PrintLast
end Go.Proofs.Ytegeahiflkjhmaa.Cmp
