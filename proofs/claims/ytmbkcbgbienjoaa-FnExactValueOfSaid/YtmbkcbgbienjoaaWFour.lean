-- Printed by the kit's print, then shortened by a program of this session's: theorems that this seat's texts do not lead to are left out.
import Derived.Test.YtmbkcbgbienjoaaWTab
/-! ### 56. Four, five, six operations that may come up next, in any order -/
namespace Go.Proofs.YtmbkcbgbienjoaaW.PrintLast
section
variable {P : Program} {ops : Array Oper} {Q : Exit → Act → World → Prop} {md : Region.Mode} {S : World → Prop} {ds : List Nat} {T : Bool × List (List Nat × List Nat)}
end
end Go.Proofs.YtmbkcbgbienjoaaW.PrintLast
