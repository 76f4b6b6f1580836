/- The machine side of the law FnEnvs: for each function that it reaches, a Lean function and its contract. Written by a program of this session's over the kit's print. No condition. -/
import Derived.Test.YtegeahiflkjhmaaCmp
import Derived.Test.YtegeahiflkjhmaaProg
import Derived.Below
import Derived.Deep.Draws
import Derived.Deep.AppendLies
import Derived.Maps.AppendAt
import Derived.OwnWalk
import Derived.Laws.BytesArg
import Derived.Laws.MakeOwn
import Derived.Laws.OwnMore
import Derived.Deep.OwnRows
import Derived.Tactics
import Derived.Lib.ConvBytes
import Derived.Laws.Slices
import Derived.WalkKit
import Derived.KernelRfl
import Derived.RowKit3
import Derived.Deep.LoopGhost
import Derived.Deep.QuietTactic
import Derived.BigQuiet
import Derived.WideLaws
import Derived.Deep.DeepCutAuto
import Derived.Deep.CutBlock
import Derived.Deep.RegionHeld3
import Derived.Laws.Rows
import Derived.Lib.AppendStr
import Derived.ArgAppend
import Derived.Laws.IdiomCopy
import Derived.OrdersHeld
import Derived.Laws.BitsLemmas
import Derived.RowKit
import Derived.Test.YtegeahiflkjhmaaWWords
import Derived.Test.YtegeahiflkjhmaaWLast
import Derived.Test.YtegeahiflkjhmaaWTab
import Derived.Test.YtegeahiflkjhmaaWFour
import Derived.Test.YtegeahiflkjhmaaWQPut
import Derived.Test.YtegeahiflkjhmaaWApart
import Derived.Test.YtegeahiflkjhmaaWArr
import Derived.Test.YtegeahiflkjhmaaWZeros
import Derived.Test.YtegeahiflkjhmaaWFoot
import Derived.Test.YtegeahiflkjhmaaWKept
import Derived.Test.YtegeahiflkjhmaaWShare
import Derived.Test.YtegeahiflkjhmaaWN
import Derived.Test.YtegeahiflkjhmaaWFootNe
import Derived.Test.YtegeahiflkjhmaaWAt
import Derived.Test.YtegeahiflkjhmaaWEqStruct
import Derived.Test.YtegeahiflkjhmaaWRepsOne
import Derived.Test.YtegeahiflkjhmaaWInv
import Derived.Test.YtegeahiflkjhmaaWInvWords
import Derived.Test.YtegeahiflkjhmaaWGuard
import Derived.Test.YtegeahiflkjhmaaWNEv
import Derived.Test.YtegeahiflkjhmaaWMore
namespace Go.Proofs.Ytegeahiflkjhmaa.PFnEnvs
open Go.RowKit Go.Proofs.YtegeahiflkjhmaaW.PrintWords Go.Proofs.YtegeahiflkjhmaaW.PrintLast Go.Proofs.YtegeahiflkjhmaaW.PrintMore Go.Proofs.Ytegeahiflkjhmaa.Cmp
attribute [local go_sem] max2_int min2_int max_two min_two max_three min_three max_four min_four   -- for this text's walks alone
set_option linter.unusedVariables false
set_option linter.unusedSimpArgs false



def errW : Option Int → Value
 | none => .nilIface
 | some c => .iface 0 (.int .i64 c)
theorem errW_none : errW none = .nilIface := rfl
theorem errW_some (c : Int) : errW (some c) = .iface 0 (.int .i64 c) := rfl

theorem info3 : (Try.prog.info? 3).map (fun i => (i.zero, i.size, i.bytes)) = some (some (.int .i64 0), 1, 8) := by kernel_rfl
theorem info9 : (Try.prog.info? 9).map (fun i => (i.zero, i.size, i.bytes)) = some (some (.string ⟨#[]⟩), 1, 16) := by kernel_rfl
-- the values' own types

end Go.Proofs.Ytegeahiflkjhmaa.PFnEnvs
