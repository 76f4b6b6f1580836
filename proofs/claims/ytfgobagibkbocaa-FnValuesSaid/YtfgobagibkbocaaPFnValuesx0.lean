/- The machine side of the law FnValues: for each function that it reaches, a Lean function and its contract. Written by a program of this session's over the kit's print. No condition. -/
import Derived.Test.YtfgobagibkbocaaCmp
import Derived.Test.YtfgobagibkbocaaProg
import Derived.Below
import Derived.Deep.Draws
import Derived.Deep.AppendLies
import Derived.Maps.AppendAt
import Derived.OwnWalk
import Derived.Laws.BytesArg
import Derived.Laws.MakeOwn
import Derived.Laws.OwnMore
import Derived.Deep.OwnRows
import Derived.Tactics
import Derived.Lib.ConvBytes
import Derived.Laws.Slices
import Derived.WalkKit
import Derived.KernelRfl
import Derived.RowKit3
import Derived.Deep.LoopGhost
import Derived.Deep.QuietTactic
import Derived.BigQuiet
import Derived.WideLaws
import Derived.Deep.DeepCutAuto
import Derived.Deep.CutBlock
import Derived.Deep.RegionHeld3
import Derived.Laws.Rows
import Derived.Lib.AppendStr
import Derived.ArgAppend
import Derived.Laws.IdiomCopy
import Derived.OrdersHeld
import Derived.Laws.BitsLemmas
import Derived.RowKit
import Derived.Test.YtfgobagibkbocaaWWords
import Derived.Test.YtfgobagibkbocaaWLast
import Derived.Test.YtfgobagibkbocaaWTab
import Derived.Test.YtfgobagibkbocaaWFour
import Derived.Test.YtfgobagibkbocaaWQPut
import Derived.Test.YtfgobagibkbocaaWApart
import Derived.Test.YtfgobagibkbocaaWArr
import Derived.Test.YtfgobagibkbocaaWZeros
import Derived.Test.YtfgobagibkbocaaWFoot
import Derived.Test.YtfgobagibkbocaaWKept
import Derived.Test.YtfgobagibkbocaaWShare
import Derived.Test.YtfgobagibkbocaaWN
import Derived.Test.YtfgobagibkbocaaWFootNe
import Derived.Test.YtfgobagibkbocaaWAt
import Derived.Test.YtfgobagibkbocaaWEqStruct
import Derived.Test.YtfgobagibkbocaaWRepsOne
import Derived.Test.YtfgobagibkbocaaWInv
import Derived.Test.YtfgobagibkbocaaWInvWords
import Derived.Test.YtfgobagibkbocaaWGuard
import Derived.Test.YtfgobagibkbocaaWNEv
import Derived.Test.YtfgobagibkbocaaWMore
namespace Go.Proofs.Ytfgobagibkbocaa.PFnValues
open Go.RowKit Go.Proofs.YtfgobagibkbocaaW.PrintWords Go.Proofs.YtfgobagibkbocaaW.PrintLast Go.Proofs.YtfgobagibkbocaaW.PrintMore Go.Proofs.Ytfgobagibkbocaa.Cmp
attribute [local go_sem] max2_int min2_int max_two min_two max_three min_three max_four min_four   -- for this text's walks alone
set_option linter.unusedVariables false
set_option linter.unusedSimpArgs false



def errW : Option Int → Value
 | none => .nilIface
 | some c => .iface 0 (.int .i64 c)
theorem errW_none : errW none = .nilIface := rfl
theorem errW_some (c : Int) : errW (some c) = .iface 0 (.int .i64 c) := rfl

theorem info3 : (Try.prog.info? 3).map (fun i => (i.zero, i.size, i.bytes)) = some (some (.int .i64 0), 1, 8) := by kernel_rfl
-- the values' own types

end Go.Proofs.Ytfgobagibkbocaa.PFnValues
