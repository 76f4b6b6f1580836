-- Printed by the kit's print, then shortened by a program of this session's: theorems that this seat's texts do not lead to are left out.
import Derived.Test.YtegeahiflkjhmaaWInv
import Derived.Test.YtegeahiflkjhmaaWFootNe
namespace Go.Proofs.YtegeahiflkjhmaaW.PrintWords
open Go.RowKit
end Go.Proofs.YtegeahiflkjhmaaW.PrintWords
namespace Go.Proofs.YtegeahiflkjhmaaW.PrintLast
section
variable {ops : Array Oper} {a : Act} {o og : Oper} {g : Nat} {t : Tmp} {u : Bool}
end
end Go.Proofs.YtegeahiflkjhmaaW.PrintLast
