-- Printed by the kit's print, then shortened by a program of this session's: theorems that this seat's texts do not lead to are left out.
import Derived.Test.YtmbkcbgbienjoaaWInv
import Derived.Test.YtmbkcbgbienjoaaWFootNe
namespace Go.Proofs.YtmbkcbgbienjoaaW.PrintWords
open Go.RowKit
end Go.Proofs.YtmbkcbgbienjoaaW.PrintWords
namespace Go.Proofs.YtmbkcbgbienjoaaW.PrintLast
section
variable {ops : Array Oper} {a : Act} {o og : Oper} {g : Nat} {t : Tmp} {u : Bool}
end
end Go.Proofs.YtmbkcbgbienjoaaW.PrintLast
