/- Short lemmas for the printed texts: what the same long row of steps proves in many places, told once. No condition beyond each lemma's own. -/
import Derived.Test.YtjjhknklnclokaaWWords
import Derived.Test.YtjjhknklnclokaaWLast
import Derived.Test.YtjjhknklnclokaaWApart
import Derived.Test.YtjjhknklnclokaaWFootNe
import Derived.Test.YtjjhknklnclokaaWMore
namespace Go.Proofs.Ytjjhknklnclokaa.Cmp
open Go.RowKit Go.Proofs.YtjjhknklnclokaaW.PrintWords Go.Proofs.YtjjhknklnclokaaW.PrintLast
end Go.Proofs.Ytjjhknklnclokaa.Cmp
