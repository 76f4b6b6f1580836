/- Short lemmas for the printed texts: what the same long row of steps proves in many places, told once. No condition beyond each lemma's own. -/
import Derived.Test.YtppfilhlblnmcaaWWords
import Derived.Test.YtppfilhlblnmcaaWLast
import Derived.Test.YtppfilhlblnmcaaWApart
import Derived.Test.YtppfilhlblnmcaaWFootNe
import Derived.Test.YtppfilhlblnmcaaWMore
namespace Go.Proofs.Ytppfilhlblnmcaa.Cmp
open Go.RowKit Go.Proofs.YtppfilhlblnmcaaW.PrintWords Go.Proofs.YtppfilhlblnmcaaW.PrintLast
end Go.Proofs.Ytppfilhlblnmcaa.Cmp
