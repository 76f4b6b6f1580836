/- Short lemmas for the printed texts: what the same long row of steps proves in many places, told once. No condition beyond each lemma's own. -/
import Derived.Test.YtjjhknklnclokaaGreatWWords
import Derived.Test.YtjjhknklnclokaaGreatWLast
import Derived.Test.YtjjhknklnclokaaGreatWApart
import Derived.Test.YtjjhknklnclokaaGreatWFootNe
import Derived.Test.YtjjhknklnclokaaGreatWMore
namespace Go.Proofs.YtjjhknklnclokaaGreat.Cmp
open Go.RowKit Go.Proofs.YtjjhknklnclokaaGreatW.PrintWords Go.Proofs.YtjjhknklnclokaaGreatW.PrintLast
end Go.Proofs.YtjjhknklnclokaaGreat.Cmp
