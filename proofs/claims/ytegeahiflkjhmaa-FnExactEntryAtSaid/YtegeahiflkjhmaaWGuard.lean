-- Printed by the kit's print, then shortened by a program of this session's: theorems that this seat's texts do not lead to are left out.
import Derived.Test.YtegeahiflkjhmaaWWords
/-! ### 58. A guarded operation whose guard is known to want it: the same goal without the guard -/
namespace Go.Proofs.YtegeahiflkjhmaaW.PrintWords
open Go.RowKit
section
variable {P : Program} {ops : Array Oper} {rest : List Oper} {o : Oper} {a : Act} {Q : Exit → Act → World → Prop} {W : World}
end
end Go.Proofs.YtegeahiflkjhmaaW.PrintWords
