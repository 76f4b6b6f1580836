/- The machine side of the law FnExactHex: for each function that it reaches, a Lean function and its contract. Written by a program of this session's over the kit's print. No condition. -/
import Derived.Test.YtkjedicbfpedmaaProg
import Derived.Below
import Derived.Deep.Draws
import Derived.Deep.AppendLies
import Derived.Maps.AppendAt
import Derived.OwnWalk
import Derived.Laws.BytesArg
import Derived.Laws.MakeOwn
import Derived.Laws.OwnMore
import Derived.Deep.OwnRows
import Derived.Tactics
import Derived.Lib.ConvBytes
import Derived.Laws.Slices
import Derived.WalkKit
import Derived.KernelRfl
import Derived.RowKit3
import Derived.Deep.LoopGhost
import Derived.Deep.QuietTactic
import Derived.BigQuiet
import Derived.WideLaws
import Derived.Deep.DeepCutAuto
import Derived.Deep.CutBlock
import Derived.Deep.RegionHeld3
import Derived.Laws.Rows
import Derived.Lib.AppendStr
import Derived.ArgAppend
import Derived.Laws.IdiomCopy
import Derived.OrdersHeld
import Derived.Laws.BitsLemmas
import Derived.RowKit
import Derived.Test.YtkjedicbfpedmaaWWords
import Derived.Test.YtkjedicbfpedmaaWLast
import Derived.Test.YtkjedicbfpedmaaWTab
import Derived.Test.YtkjedicbfpedmaaWFour
import Derived.Test.YtkjedicbfpedmaaWQPut
import Derived.Test.YtkjedicbfpedmaaWApart
import Derived.Test.YtkjedicbfpedmaaWArr
import Derived.Test.YtkjedicbfpedmaaWZeros
import Derived.Test.YtkjedicbfpedmaaWFoot
import Derived.Test.YtkjedicbfpedmaaWKept
import Derived.Test.YtkjedicbfpedmaaWShare
import Derived.Test.YtkjedicbfpedmaaWN
import Derived.Test.YtkjedicbfpedmaaWFootNe
import Derived.Test.YtkjedicbfpedmaaWAt
import Derived.Test.YtkjedicbfpedmaaWEqStruct
import Derived.Test.YtkjedicbfpedmaaWRepsOne
import Derived.Test.YtkjedicbfpedmaaWInv
import Derived.Test.YtkjedicbfpedmaaWInvWords
import Derived.Test.YtkjedicbfpedmaaWGuard
import Derived.Test.YtkjedicbfpedmaaWNEv
import Derived.Test.YtkjedicbfpedmaaWMore
namespace Go.Proofs.Ytkjedicbfpedmaa.PFnExactHex
open Go.RowKit Go.Proofs.YtkjedicbfpedmaaW.PrintWords Go.Proofs.YtkjedicbfpedmaaW.PrintLast Go.Proofs.YtkjedicbfpedmaaW.PrintMore
attribute [local go_sem] max2_int min2_int max_two min_two max_three min_three max_four min_four   -- for this text's walks alone
set_option linter.unusedVariables false
set_option linter.unusedSimpArgs false



def errW : Option Int → Value
  | none => .nilIface
  | some c => .iface 0 (.int .i64 c)
theorem errW_none : errW none = .nilIface := rfl
theorem errW_some (c : Int) : errW (some c) = .iface 0 (.int .i64 c) := rfl

theorem info5 : (Try.prog.info? 5).map (fun i => (i.zero, i.size, i.bytes)) = some (some (.int .u8 0), 1, 1) := by kernel_rfl
-- the values' own types

end Go.Proofs.Ytkjedicbfpedmaa.PFnExactHex
