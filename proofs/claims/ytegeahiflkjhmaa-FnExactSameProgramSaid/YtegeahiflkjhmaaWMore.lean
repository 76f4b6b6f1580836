-- Printed by the kit's print, then shortened by a program of this session's: theorems that this seat's texts do not lead to are left out.
-- PRINTED WORDS (module Derived/Print/More.lean): go-gate-2's additions: an AI agent of Go's test side, Tue Nov 17 2026; no person has read it. Lean checks it.
import Derived.Test.YtegeahiflkjhmaaWWords
import Derived.Test.YtegeahiflkjhmaaWLast
import Derived.Test.YtegeahiflkjhmaaWQPut
import Derived.Test.YtegeahiflkjhmaaWApart
import Derived.Test.YtegeahiflkjhmaaWZeros
import Derived.Test.YtegeahiflkjhmaaWFoot
import Derived.Test.YtegeahiflkjhmaaWKept
import Derived.Test.YtegeahiflkjhmaaWNEv
namespace Go.Proofs.YtegeahiflkjhmaaW.PrintMore
open Go.RowKit Go.Proofs.YtegeahiflkjhmaaW.PrintWords
namespace Kd
open Go.Proofs.YtegeahiflkjhmaaW.PrintWords.Kd
end Kd

namespace Kd
open Go.Proofs.YtegeahiflkjhmaaW.PrintWords.Kd
section
variable {α : Type} {d : Kd α} {e base g N : Nat} {ok : Nat → Prop} {W w1 : World} {u v : Value} {xs : List α}
end
end Kd
end Go.Proofs.YtegeahiflkjhmaaW.PrintMore
namespace Go.Proofs.YtegeahiflkjhmaaW.PrintWords
open Go.RowKit
section
variable {P : Program} {ops : Array Oper} {rest : List Oper} {o : Oper} {a : Act} {Q : Exit → Act → World → Prop} {W : World}
end
namespace Kd
section
variable {α : Type} {d : Kd α} {e base : Nat} {ok : Nat → Prop} {W w1 : World} {v : Value} {xs : List α}
end
section
variable {α : Type} {d : Kd α} {e base g n cap : Nat} {ok oki okp : Nat → Prop} {W : World} {xs : List α} {i : Int} {c : List Value}
end
section
variable {α : Type} {d : Kd α} {e base b b' g N : Nat} {ok ok1 : Nat → Prop} {W W2 w1 : World} {u v : Value} {xs ys : List α} {S : Nat → Prop}
end
end Kd
end Go.Proofs.YtegeahiflkjhmaaW.PrintWords
namespace Go.Proofs.YtegeahiflkjhmaaW.PrintWords
open Go.RowKit
namespace Kd
section
variable {α β : Type} {d : Kd α} {e base base' n m c g N' lo hi : Nat} {ok ok' S : Nat → Prop} {w W w1 : World} {A : Option Addr} {ad : Addr} {u v v1 : Value} {xs : List α}
end
end Kd
end Go.Proofs.YtegeahiflkjhmaaW.PrintWords
