-- Printed by the kit's print, then shortened by a program of this session's: theorems that this seat's texts do not lead to are left out.
-- PRINTED WORDS (module Derived/Print/More.lean): go-gate-2's additions: an AI agent of Go's test side, Tue Nov 17 2026; no person has read it. Lean checks it.
import Derived.Test.YtppfilhlblnmcaaWWords
import Derived.Test.YtppfilhlblnmcaaWLast
import Derived.Test.YtppfilhlblnmcaaWQPut
import Derived.Test.YtppfilhlblnmcaaWApart
import Derived.Test.YtppfilhlblnmcaaWZeros
import Derived.Test.YtppfilhlblnmcaaWFoot
import Derived.Test.YtppfilhlblnmcaaWKept
import Derived.Test.YtppfilhlblnmcaaWNEv
namespace Go.Proofs.YtppfilhlblnmcaaW.PrintMore
open Go.RowKit Go.Proofs.YtppfilhlblnmcaaW.PrintWords
namespace Kd
open Go.Proofs.YtppfilhlblnmcaaW.PrintWords.Kd
end Kd

namespace Kd
open Go.Proofs.YtppfilhlblnmcaaW.PrintWords.Kd
section
variable {α : Type} {d : Kd α} {e base g N : Nat} {ok : Nat → Prop} {W w1 : World} {u v : Value} {xs : List α}
end
end Kd
end Go.Proofs.YtppfilhlblnmcaaW.PrintMore
namespace Go.Proofs.YtppfilhlblnmcaaW.PrintWords
open Go.RowKit
section
variable {P : Program} {ops : Array Oper} {rest : List Oper} {o : Oper} {a : Act} {Q : Exit → Act → World → Prop} {W : World}
end
namespace Kd
section
variable {α : Type} {d : Kd α} {e base : Nat} {ok : Nat → Prop} {W w1 : World} {v : Value} {xs : List α}
end
section
variable {α : Type} {d : Kd α} {e base g n cap : Nat} {ok oki okp : Nat → Prop} {W : World} {xs : List α} {i : Int} {c : List Value}
end
section
variable {α : Type} {d : Kd α} {e base b b' g N : Nat} {ok ok1 : Nat → Prop} {W W2 w1 : World} {u v : Value} {xs ys : List α} {S : Nat → Prop}
end
end Kd
end Go.Proofs.YtppfilhlblnmcaaW.PrintWords
namespace Go.Proofs.YtppfilhlblnmcaaW.PrintWords
open Go.RowKit
namespace Kd
section
variable {α β : Type} {d : Kd α} {e base base' n m c g N' lo hi : Nat} {ok ok' S : Nat → Prop} {w W w1 : World} {A : Option Addr} {ad : Addr} {u v v1 : Value} {xs : List α}
end
end Kd
end Go.Proofs.YtppfilhlblnmcaaW.PrintWords
