/- Short lemmas for the printed texts: what the same long row of steps proves in many places, told once. No condition beyond each lemma's own. -/
import Derived.Test.YtmbkcbgbienjoaaWWords
import Derived.Test.YtmbkcbgbienjoaaWLast
import Derived.Test.YtmbkcbgbienjoaaWApart
import Derived.Test.YtmbkcbgbienjoaaWFootNe
import Derived.Test.YtmbkcbgbienjoaaWMore
namespace Go.Proofs.Ytmbkcbgbienjoaa.Cmp
open Go.RowKit Go.Proofs.YtmbkcbgbienjoaaW.PrintWords Go.Proofs.YtmbkcbgbienjoaaW.PrintLast
end Go.Proofs.Ytmbkcbgbienjoaa.Cmp
