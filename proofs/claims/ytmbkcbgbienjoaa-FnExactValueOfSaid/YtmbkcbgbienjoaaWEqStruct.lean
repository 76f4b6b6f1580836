-- Printed by the kit's print, then shortened by a program of this session's: theorems that this seat's texts do not lead to are left out.
import Derived.Test.YtmbkcbgbienjoaaWWords
import Derived.Laws.StructEq
/-! ### 53. '==' of structs as_ one Bool -/
namespace Go.Proofs.YtmbkcbgbienjoaaW.PrintWords
open Go.RowKit
section
variable {P : Program} {d : Nat} {xs ys : Array Value} {f : Field} {fs : List Field} {a b : Value} {r s : Bool} {w : World}
end
end Go.Proofs.YtmbkcbgbienjoaaW.PrintWords
