/- The machine side of the law FnNumbers: for each function that it reaches, a Lean function and its contract. Written by a program of this session's over the kit's print. No condition. -/
import Derived.Test.YtmbkcbgbienjoaaDoorCmq
import Derived.Test.YtmbkcbgbienjoaaDoorProg
import Derived.Below
import Derived.Deep.Draws
import Derived.Deep.AppendLies
import Derived.Maps.AppendAt
import Derived.OwnWalk
import Derived.Laws.BytesArg
import Derived.Laws.MakeOwn
import Derived.Laws.OwnMore
import Derived.Deep.OwnRows
import Derived.Tactics
import Derived.Lib.ConvBytes
import Derived.Laws.Slices
import Derived.WalkKit
import Derived.KernelRfl
import Derived.RowKit3
import Derived.Deep.LoopGhost
import Derived.Deep.QuietTactic
import Derived.BigQuiet
import Derived.WideLaws
import Derived.Deep.DeepCutAuto
import Derived.Deep.CutBlock
import Derived.Deep.RegionHeld3
import Derived.Laws.Rows
import Derived.Lib.AppendStr
import Derived.ArgAppend
import Derived.Laws.IdiomCopy
import Derived.OrdersHeld
import Derived.Laws.BitsLemmas
import Derived.RowKit
import Derived.Test.YtmbkcbgbienjoaaDoorShelf
import Derived.Lib.SmallJoins
import Derived.Lib.AppendIntMem
import Derived.Lib.AtoiErrMem
import Derived.Lib.Strings
import Derived.Lib.Slices
import Derived.Lib.Walk
import Derived.Lib.Bytealg
import Derived.Test.YtmbkcbgbienjoaaDoorWWords
import Derived.Test.YtmbkcbgbienjoaaDoorWLast
import Derived.Test.YtmbkcbgbienjoaaDoorWTab
import Derived.Test.YtmbkcbgbienjoaaDoorWFour
import Derived.Test.YtmbkcbgbienjoaaDoorWQPut
import Derived.Test.YtmbkcbgbienjoaaDoorWApart
import Derived.Test.YtmbkcbgbienjoaaDoorWArr
import Derived.Test.YtmbkcbgbienjoaaDoorWZeros
import Derived.Test.YtmbkcbgbienjoaaDoorWFoot
import Derived.Test.YtmbkcbgbienjoaaDoorWKept
import Derived.Test.YtmbkcbgbienjoaaDoorWShare
import Derived.Test.YtmbkcbgbienjoaaDoorWN
import Derived.Test.YtmbkcbgbienjoaaDoorWFootNe
import Derived.Test.YtmbkcbgbienjoaaDoorWAt
import Derived.Test.YtmbkcbgbienjoaaDoorWEqStruct
import Derived.Test.YtmbkcbgbienjoaaDoorWRepsOne
import Derived.Test.YtmbkcbgbienjoaaDoorWInv
import Derived.Test.YtmbkcbgbienjoaaDoorWInvWords
import Derived.Test.YtmbkcbgbienjoaaDoorWGuard
import Derived.Test.YtmbkcbgbienjoaaDoorWNEv
import Derived.Test.YtmbkcbgbienjoaaDoorWMore
namespace Go.Proofs.YtmbkcbgbienjoaaDoor.PFnNumbers
open Go.RowKit Go.Proofs.YtmbkcbgbienjoaaDoorW.PrintWords Go.Proofs.YtmbkcbgbienjoaaDoorW.PrintLast Go.Proofs.YtmbkcbgbienjoaaDoorW.PrintMore Go.Proofs.YtmbkcbgbienjoaaDoor.Cmp
attribute [local go_sem] max2_int min2_int max_two min_two max_three min_three max_four min_four   -- for this text's walks alone
set_option linter.unusedVariables false
set_option maxHeartbeats 8000000
set_option maxRecDepth 100000
set_option linter.unusedSimpArgs false



def errW : Option Int → Value
 | none => .nilIface
 | some c => .iface 56 (.int .i64 c)
theorem errW_none : errW none = .nilIface := rfl
theorem errW_some (c : Int) : errW (some c) = .iface 56 (.int .i64 c) := rfl

theorem info3 : (Tryd.prog.info? 3).map (fun i => (i.zero, i.size, i.bytes)) = some (some (.int .i64 0), 1, 8) := by kernel_rfl
theorem info5 : (Tryd.prog.info? 5).map (fun i => (i.zero, i.size, i.bytes)) = some (some (.int .u8 0), 1, 1) := by kernel_rfl
-- the values' own types
end Go.Proofs.YtmbkcbgbienjoaaDoor.PFnNumbers
