/-
  No cell of these rows narrows 'for every input' (looked for: loops, veiled, ifaces, maps, wideKeys, modest, calm, conditions, laid).
  DERIVED. THE GIVEN ROWS OF THIS SEAT. 12 by the template 'for every input the law returns true; each argument reads behind the call as it read before'; 0 by the template 'total and deterministic' (their statements: YtfgobagibkbocaaTotals.lean).
  GIVEN WITH THE SEED: the statements are not yours to turn. If you find one false, say at which input.
  Laid BY PROGRAM, IN A SANDBOX (cutbox-rows.mjs): the forced cells as the released guide's own fill.sh prints them over the translation 7f8cdebad2e6c2d7… (all of the seat's roots in one cut). By AI agents, Wed Nov 11 2026. No macro, syntax, notation, axiom, sorry.
-/
import Derived.Test.YtfgobagibkbocaaChecked
import GoSem.Claim
import GoSem.ClaimJoined
import GoSem.ClaimMapViews
import Derived.JoinedTies
import Derived.KernelRfl
namespace Go.Proofs.Ytfgobagibkbocaa
/- THE CELL 'sum', in the pinned program and in every row, IS THE sha256 OF THE DUMP (.gsa) THAT YtfgobagibkbocaaProg.lean LOADS. Nothing in Lean hashes anything: it is a label: what it is worth is what the hold of that sum in a sandbox is worth. -/
noncomputable def Try.pinned : Pinned := { name := "ytfgobagibkbocaa", sum := "7f8cdebad2e6c2d714bac6d80222a546b27deb49e9ce76ea65ae9436adc26dd2", checked := Try.checked }
namespace Rows
def none {H : Type} : Left H := { results := [], args := [] }

/-- 'laws.FnExactUnhex': WHATEVER THE INPUT: true; the input reads as it did. -/
def fnExactUnhexSpec : ChangeSpec := { name := "fnExactUnhex", fn := fun _ => fun
  | [d] => { results := [.lit (.bool true)], args := [d] }
  | _ => none }
def fnExactUnhexRow : OpenClaim := { program := "ytfgobagibkbocaa", sum := "7f8cdebad2e6c2d714bac6d80222a546b27deb49e9ce76ea65ae9436adc26dd2", func := "loop.example/g00290/laws.FnExactUnhex", spec := "fnExactUnhex", inPlace := ["internal/bytealg.IndexByteString"], apart := false }
def FnExactUnhexSaid : Prop := fnExactUnhexRow.holds Try.pinned (OpenSpec.ofChange fnExactUnhexSpec)

/-- ITS FALSE NEIGHBOUR: 'it returns false'. Refute it at one input. -/
def fnExactUnhexWrong : ChangeSpec := { name := "fnExactUnhex", fn := fun _ => fun
  | [d] => { results := [.lit (.bool false)], args := [d] }
  | _ => none }
def FnExactUnhexWrongFalsely : Prop := fnExactUnhexRow.holds Try.pinned (OpenSpec.ofChange fnExactUnhexWrong)

/-- 'laws.FnExactUnsealed': WHATEVER THE INPUT: true; the input reads as it did. -/
def fnExactUnsealedSpec : ChangeSpec := { name := "fnExactUnsealed", fn := fun _ => fun
  | [d] => { results := [.lit (.bool true)], args := [d] }
  | _ => none }
def fnExactUnsealedRow : OpenClaim := { program := "ytfgobagibkbocaa", sum := "7f8cdebad2e6c2d714bac6d80222a546b27deb49e9ce76ea65ae9436adc26dd2", func := "loop.example/g00290/laws.FnExactUnsealed", spec := "fnExactUnsealed", apart := false }
def FnExactUnsealedSaid : Prop := fnExactUnsealedRow.holds Try.pinned (OpenSpec.ofChange fnExactUnsealedSpec)

/-- ITS FALSE NEIGHBOUR: 'it returns false'. Refute it at one input. -/
def fnExactUnsealedWrong : ChangeSpec := { name := "fnExactUnsealed", fn := fun _ => fun
  | [d] => { results := [.lit (.bool false)], args := [d] }
  | _ => none }
def FnExactUnsealedWrongFalsely : Prop := fnExactUnsealedRow.holds Try.pinned (OpenSpec.ofChange fnExactUnsealedWrong)

/-- 'laws.FnExactReadVar': WHATEVER THE INPUT: true; the input reads as it did. -/
def fnExactReadVarSpec : ChangeSpec := { name := "fnExactReadVar", fn := fun _ => fun
  | [d1, d2] => { results := [.lit (.bool true)], args := [d1, d2] }
  | _ => none }
def fnExactReadVarRow : OpenClaim := { program := "ytfgobagibkbocaa", sum := "7f8cdebad2e6c2d714bac6d80222a546b27deb49e9ce76ea65ae9436adc26dd2", func := "loop.example/g00290/laws.FnExactReadVar", spec := "fnExactReadVar", apart := false }
def FnExactReadVarSaid : Prop := fnExactReadVarRow.holds Try.pinned (OpenSpec.ofChange fnExactReadVarSpec)

/-- ITS FALSE NEIGHBOUR: 'it returns false'. Refute it at one input. -/
def fnExactReadVarWrong : ChangeSpec := { name := "fnExactReadVar", fn := fun _ => fun
  | [d1, d2] => { results := [.lit (.bool false)], args := [d1, d2] }
  | _ => none }
def FnExactReadVarWrongFalsely : Prop := fnExactReadVarRow.holds Try.pinned (OpenSpec.ofChange fnExactReadVarWrong)

/-- 'laws.FnExactUnlike': WHATEVER THE INPUT: true; the input reads as it did. -/
def fnExactUnlikeSpec : ChangeSpec := { name := "fnExactUnlike", fn := fun _ => fun
  | [d] => { results := [.lit (.bool true)], args := [d] }
  | _ => none }
def fnExactUnlikeRow : OpenClaim := { program := "ytfgobagibkbocaa", sum := "7f8cdebad2e6c2d714bac6d80222a546b27deb49e9ce76ea65ae9436adc26dd2", func := "loop.example/g00290/laws.FnExactUnlike", spec := "fnExactUnlike", apart := false }
def FnExactUnlikeSaid : Prop := fnExactUnlikeRow.holds Try.pinned (OpenSpec.ofChange fnExactUnlikeSpec)

/-- ITS FALSE NEIGHBOUR: 'it returns false'. Refute it at one input. -/
def fnExactUnlikeWrong : ChangeSpec := { name := "fnExactUnlike", fn := fun _ => fun
  | [d] => { results := [.lit (.bool false)], args := [d] }
  | _ => none }
def FnExactUnlikeWrongFalsely : Prop := fnExactUnlikeRow.holds Try.pinned (OpenSpec.ofChange fnExactUnlikeWrong)

/-- 'laws.FnExactGateNew': WHATEVER THE INPUT: true; the input reads as it did. -/
def fnExactGateNewSpec : ChangeSpec := { name := "fnExactGateNew", fn := fun _ => fun
  | [d] => { results := [.lit (.bool true)], args := [d] }
  | _ => none }
def fnExactGateNewRow : OpenClaim := { program := "ytfgobagibkbocaa", sum := "7f8cdebad2e6c2d714bac6d80222a546b27deb49e9ce76ea65ae9436adc26dd2", func := "loop.example/g00290/laws.FnExactGateNew", spec := "fnExactGateNew", apart := false }
def FnExactGateNewSaid : Prop := fnExactGateNewRow.holds Try.pinned (OpenSpec.ofChange fnExactGateNewSpec)

/-- ITS FALSE NEIGHBOUR: 'it returns false'. Refute it at one input. -/
def fnExactGateNewWrong : ChangeSpec := { name := "fnExactGateNew", fn := fun _ => fun
  | [d] => { results := [.lit (.bool false)], args := [d] }
  | _ => none }
def FnExactGateNewWrongFalsely : Prop := fnExactGateNewRow.holds Try.pinned (OpenSpec.ofChange fnExactGateNewWrong)

/-- 'laws.FnExactReadShort': WHATEVER THE INPUT: true; the input reads as it did. -/
def fnExactReadShortSpec : ChangeSpec := { name := "fnExactReadShort", fn := fun _ => fun
  | [d1, d2] => { results := [.lit (.bool true)], args := [d1, d2] }
  | _ => none }
def fnExactReadShortRow : OpenClaim := { program := "ytfgobagibkbocaa", sum := "7f8cdebad2e6c2d714bac6d80222a546b27deb49e9ce76ea65ae9436adc26dd2", func := "loop.example/g00290/laws.FnExactReadShort", spec := "fnExactReadShort", apart := false }
def FnExactReadShortSaid : Prop := fnExactReadShortRow.holds Try.pinned (OpenSpec.ofChange fnExactReadShortSpec)

/-- ITS FALSE NEIGHBOUR: 'it returns false'. Refute it at one input. -/
def fnExactReadShortWrong : ChangeSpec := { name := "fnExactReadShort", fn := fun _ => fun
  | [d1, d2] => { results := [.lit (.bool false)], args := [d1, d2] }
  | _ => none }
def FnExactReadShortWrongFalsely : Prop := fnExactReadShortRow.holds Try.pinned (OpenSpec.ofChange fnExactReadShortWrong)

/-- 'laws.FnOrders': WHATEVER THE INPUT: true; the input reads as it did. -/
def fnOrdersSpec : ChangeSpec := { name := "fnOrders", fn := fun _ => fun
  | [d] => { results := [.lit (.bool true)], args := [d] }
  | _ => none }
def fnOrdersRow : OpenClaim := { program := "ytfgobagibkbocaa", sum := "7f8cdebad2e6c2d714bac6d80222a546b27deb49e9ce76ea65ae9436adc26dd2", func := "loop.example/g00290/laws.FnOrders", spec := "fnOrders", apart := false }
def FnOrdersSaid : Prop := fnOrdersRow.holds Try.pinned (OpenSpec.ofChange fnOrdersSpec)

/-- ITS FALSE NEIGHBOUR: 'it returns false'. Refute it at one input. -/
def fnOrdersWrong : ChangeSpec := { name := "fnOrders", fn := fun _ => fun
  | [d] => { results := [.lit (.bool false)], args := [d] }
  | _ => none }
def FnOrdersWrongFalsely : Prop := fnOrdersRow.holds Try.pinned (OpenSpec.ofChange fnOrdersWrong)

/-- 'laws.FnExactCalc': WHATEVER THE INPUT: true; the input reads as it did. -/
def fnExactCalcSpec : ChangeSpec := { name := "fnExactCalc", fn := fun _ => fun
  | [d1, d2, d3] => { results := [.lit (.bool true)], args := [d1, d2, d3] }
  | _ => none }
def fnExactCalcRow : OpenClaim := { program := "ytfgobagibkbocaa", sum := "7f8cdebad2e6c2d714bac6d80222a546b27deb49e9ce76ea65ae9436adc26dd2", func := "loop.example/g00290/laws.FnExactCalc", spec := "fnExactCalc", apart := false }
def FnExactCalcSaid : Prop := fnExactCalcRow.holds Try.pinned (OpenSpec.ofChange fnExactCalcSpec)

/-- ITS FALSE NEIGHBOUR: 'it returns false'. Refute it at one input. -/
def fnExactCalcWrong : ChangeSpec := { name := "fnExactCalc", fn := fun _ => fun
  | [d1, d2, d3] => { results := [.lit (.bool false)], args := [d1, d2, d3] }
  | _ => none }
def FnExactCalcWrongFalsely : Prop := fnExactCalcRow.holds Try.pinned (OpenSpec.ofChange fnExactCalcWrong)

/-- 'laws.FnTurned': WHATEVER THE INPUT: true; the input reads as it did. -/
def fnTurnedSpec : ChangeSpec := { name := "fnTurned", fn := fun _ => fun
  | [d] => { results := [.lit (.bool true)], args := [d] }
  | _ => none }
def fnTurnedRow : OpenClaim := { program := "ytfgobagibkbocaa", sum := "7f8cdebad2e6c2d714bac6d80222a546b27deb49e9ce76ea65ae9436adc26dd2", func := "loop.example/g00290/laws.FnTurned", spec := "fnTurned", apart := false }
def FnTurnedSaid : Prop := fnTurnedRow.holds Try.pinned (OpenSpec.ofChange fnTurnedSpec)

/-- ITS FALSE NEIGHBOUR: 'it returns false'. Refute it at one input. -/
def fnTurnedWrong : ChangeSpec := { name := "fnTurned", fn := fun _ => fun
  | [d] => { results := [.lit (.bool false)], args := [d] }
  | _ => none }
def FnTurnedWrongFalsely : Prop := fnTurnedRow.holds Try.pinned (OpenSpec.ofChange fnTurnedWrong)

/-- 'laws.FnExactGetIn': WHATEVER THE INPUT: true; the input reads as it did. -/
def fnExactGetInSpec : ChangeSpec := { name := "fnExactGetIn", fn := fun _ => fun
  | [d1, d2] => { results := [.lit (.bool true)], args := [d1, d2] }
  | _ => none }
def fnExactGetInRow : OpenClaim := { program := "ytfgobagibkbocaa", sum := "7f8cdebad2e6c2d714bac6d80222a546b27deb49e9ce76ea65ae9436adc26dd2", func := "loop.example/g00290/laws.FnExactGetIn", spec := "fnExactGetIn", apart := false }
def FnExactGetInSaid : Prop := fnExactGetInRow.holds Try.pinned (OpenSpec.ofChange fnExactGetInSpec)

/-- ITS FALSE NEIGHBOUR: 'it returns false'. Refute it at one input. -/
def fnExactGetInWrong : ChangeSpec := { name := "fnExactGetIn", fn := fun _ => fun
  | [d1, d2] => { results := [.lit (.bool false)], args := [d1, d2] }
  | _ => none }
def FnExactGetInWrongFalsely : Prop := fnExactGetInRow.holds Try.pinned (OpenSpec.ofChange fnExactGetInWrong)

/-- 'laws.FnValues': WHATEVER THE INPUT: true; the input reads as it did. -/
def fnValuesSpec : ChangeSpec := { name := "fnValues", fn := fun _ => fun
  | [d] => { results := [.lit (.bool true)], args := [d] }
  | _ => none }
def fnValuesRow : OpenClaim := { program := "ytfgobagibkbocaa", sum := "7f8cdebad2e6c2d714bac6d80222a546b27deb49e9ce76ea65ae9436adc26dd2", func := "loop.example/g00290/laws.FnValues", spec := "fnValues", apart := false }
def FnValuesSaid : Prop := fnValuesRow.holds Try.pinned (OpenSpec.ofChange fnValuesSpec)

/-- ITS FALSE NEIGHBOUR: 'it returns false'. Refute it at one input. -/
def fnValuesWrong : ChangeSpec := { name := "fnValues", fn := fun _ => fun
  | [d] => { results := [.lit (.bool false)], args := [d] }
  | _ => none }
def FnValuesWrongFalsely : Prop := fnValuesRow.holds Try.pinned (OpenSpec.ofChange fnValuesWrong)

/-- 'laws.FnExactSignText': WHATEVER THE INPUT: true; the input reads as it did. -/
def fnExactSignTextSpec : ChangeSpec := { name := "fnExactSignText", fn := fun _ => fun
  | [d] => { results := [.lit (.bool true)], args := [d] }
  | _ => none }
def fnExactSignTextRow : OpenClaim := { program := "ytfgobagibkbocaa", sum := "7f8cdebad2e6c2d714bac6d80222a546b27deb49e9ce76ea65ae9436adc26dd2", func := "loop.example/g00290/laws.FnExactSignText", spec := "fnExactSignText", inPlace := ["internal/abi.NoEscape", "internal/bytealg.MakeNoZero"], apart := false }
def FnExactSignTextSaid : Prop := fnExactSignTextRow.holds Try.pinned (OpenSpec.ofChange fnExactSignTextSpec)

/-- ITS FALSE NEIGHBOUR: 'it returns false'. Refute it at one input. -/
def fnExactSignTextWrong : ChangeSpec := { name := "fnExactSignText", fn := fun _ => fun
  | [d] => { results := [.lit (.bool false)], args := [d] }
  | _ => none }
def FnExactSignTextWrongFalsely : Prop := fnExactSignTextRow.holds Try.pinned (OpenSpec.ofChange fnExactSignTextWrong)

/- THE SECOND FORM. 'bulk': how many values and letters a reading holds, each counted each time it is reached (what is shared counts as often as it is met; a slice's spare places count too). A statement '..UptoSaid' is the law's where the arguments, and the package variables that the reading takes, are together of bulk at most 1048576: NARROWER than '..Said'. Prove '..Said' where nothing that the law and all that it calls make is longer than what came in: it says more and counts as full. Else prove '..UptoSaid'. A law counts once. -/
mutual
def uptoBulk {H : Type} : DataW H → Nat
  | .lit (.string bytes) => bytes.length + 1
  | .lit _ => 1
  | .nil => 1
  | .ptr d => uptoBulk d + 1
  | .slice elems spare => uptoBulkAll elems + uptoBulkAll spare + 1
  | .agg parts => uptoBulkAll parts + 1
  | .iface _ d => uptoBulk d + 1
  | .map entries => uptoBulkEntries entries + 1
  | .held _ => 1
def uptoBulkAll {H : Type} : List (DataW H) → Nat
  | [] => 0
  | d :: r => uptoBulk d + uptoBulkAll r
def uptoBulkEntries {H : Type} : List (Lit × DataW H) → Nat
  | [] => 0
  | x :: r => uptoBulkEntry x + uptoBulkEntries r
def uptoBulkEntry {H : Type} : Lit × DataW H → Nat
  | (.string bytes, d) => bytes.length + uptoBulk d + 1
  | (_, d) => uptoBulk d + 1
 end
def uptoSmall : (H : Type) → List (DataW H) → Bool := fun _ ds => decide (uptoBulkAll ds ≤ 1048576)
def OpenSpec.upto (s : _root_.Go.ChangeSpec) : _root_.Go.OpenSpec := { _root_.Go.OpenSpec.ofChange s with cond := some uptoSmall }

/-- 'laws.FnExactUnhex', WHERE WHAT IT READS IS OF BULK AT MOST 1048576: true; the input reads as it did. -/
def fnExactUnhexUptoRow : OpenClaim := { program := "ytfgobagibkbocaa", sum := "7f8cdebad2e6c2d714bac6d80222a546b27deb49e9ce76ea65ae9436adc26dd2", func := "loop.example/g00290/laws.FnExactUnhex", spec := "fnExactUnhex", inPlace := ["internal/bytealg.IndexByteString"], apart := false, narrowed := true }
def FnExactUnhexUptoSaid : Prop := fnExactUnhexUptoRow.holds Try.pinned (OpenSpec.upto fnExactUnhexSpec)

/-- 'laws.FnExactUnsealed', WHERE WHAT IT READS IS OF BULK AT MOST 1048576: true; the input reads as it did. -/
def fnExactUnsealedUptoRow : OpenClaim := { program := "ytfgobagibkbocaa", sum := "7f8cdebad2e6c2d714bac6d80222a546b27deb49e9ce76ea65ae9436adc26dd2", func := "loop.example/g00290/laws.FnExactUnsealed", spec := "fnExactUnsealed", apart := false, narrowed := true }
def FnExactUnsealedUptoSaid : Prop := fnExactUnsealedUptoRow.holds Try.pinned (OpenSpec.upto fnExactUnsealedSpec)

/-- 'laws.FnExactReadVar', WHERE WHAT IT READS IS OF BULK AT MOST 1048576: true; the input reads as it did. -/
def fnExactReadVarUptoRow : OpenClaim := { program := "ytfgobagibkbocaa", sum := "7f8cdebad2e6c2d714bac6d80222a546b27deb49e9ce76ea65ae9436adc26dd2", func := "loop.example/g00290/laws.FnExactReadVar", spec := "fnExactReadVar", apart := false, narrowed := true }
def FnExactReadVarUptoSaid : Prop := fnExactReadVarUptoRow.holds Try.pinned (OpenSpec.upto fnExactReadVarSpec)

/-- 'laws.FnExactUnlike', WHERE WHAT IT READS IS OF BULK AT MOST 1048576: true; the input reads as it did. -/
def fnExactUnlikeUptoRow : OpenClaim := { program := "ytfgobagibkbocaa", sum := "7f8cdebad2e6c2d714bac6d80222a546b27deb49e9ce76ea65ae9436adc26dd2", func := "loop.example/g00290/laws.FnExactUnlike", spec := "fnExactUnlike", apart := false, narrowed := true }
def FnExactUnlikeUptoSaid : Prop := fnExactUnlikeUptoRow.holds Try.pinned (OpenSpec.upto fnExactUnlikeSpec)

/-- 'laws.FnExactGateNew', WHERE WHAT IT READS IS OF BULK AT MOST 1048576: true; the input reads as it did. -/
def fnExactGateNewUptoRow : OpenClaim := { program := "ytfgobagibkbocaa", sum := "7f8cdebad2e6c2d714bac6d80222a546b27deb49e9ce76ea65ae9436adc26dd2", func := "loop.example/g00290/laws.FnExactGateNew", spec := "fnExactGateNew", apart := false, narrowed := true }
def FnExactGateNewUptoSaid : Prop := fnExactGateNewUptoRow.holds Try.pinned (OpenSpec.upto fnExactGateNewSpec)

/-- 'laws.FnExactReadShort', WHERE WHAT IT READS IS OF BULK AT MOST 1048576: true; the input reads as it did. -/
def fnExactReadShortUptoRow : OpenClaim := { program := "ytfgobagibkbocaa", sum := "7f8cdebad2e6c2d714bac6d80222a546b27deb49e9ce76ea65ae9436adc26dd2", func := "loop.example/g00290/laws.FnExactReadShort", spec := "fnExactReadShort", apart := false, narrowed := true }
def FnExactReadShortUptoSaid : Prop := fnExactReadShortUptoRow.holds Try.pinned (OpenSpec.upto fnExactReadShortSpec)

/-- 'laws.FnOrders', WHERE WHAT IT READS IS OF BULK AT MOST 1048576: true; the input reads as it did. -/
def fnOrdersUptoRow : OpenClaim := { program := "ytfgobagibkbocaa", sum := "7f8cdebad2e6c2d714bac6d80222a546b27deb49e9ce76ea65ae9436adc26dd2", func := "loop.example/g00290/laws.FnOrders", spec := "fnOrders", apart := false, narrowed := true }
def FnOrdersUptoSaid : Prop := fnOrdersUptoRow.holds Try.pinned (OpenSpec.upto fnOrdersSpec)

/-- 'laws.FnExactCalc', WHERE WHAT IT READS IS OF BULK AT MOST 1048576: true; the input reads as it did. -/
def fnExactCalcUptoRow : OpenClaim := { program := "ytfgobagibkbocaa", sum := "7f8cdebad2e6c2d714bac6d80222a546b27deb49e9ce76ea65ae9436adc26dd2", func := "loop.example/g00290/laws.FnExactCalc", spec := "fnExactCalc", apart := false, narrowed := true }
def FnExactCalcUptoSaid : Prop := fnExactCalcUptoRow.holds Try.pinned (OpenSpec.upto fnExactCalcSpec)

/-- 'laws.FnTurned', WHERE WHAT IT READS IS OF BULK AT MOST 1048576: true; the input reads as it did. -/
def fnTurnedUptoRow : OpenClaim := { program := "ytfgobagibkbocaa", sum := "7f8cdebad2e6c2d714bac6d80222a546b27deb49e9ce76ea65ae9436adc26dd2", func := "loop.example/g00290/laws.FnTurned", spec := "fnTurned", apart := false, narrowed := true }
def FnTurnedUptoSaid : Prop := fnTurnedUptoRow.holds Try.pinned (OpenSpec.upto fnTurnedSpec)

/-- 'laws.FnExactGetIn', WHERE WHAT IT READS IS OF BULK AT MOST 1048576: true; the input reads as it did. -/
def fnExactGetInUptoRow : OpenClaim := { program := "ytfgobagibkbocaa", sum := "7f8cdebad2e6c2d714bac6d80222a546b27deb49e9ce76ea65ae9436adc26dd2", func := "loop.example/g00290/laws.FnExactGetIn", spec := "fnExactGetIn", apart := false, narrowed := true }
def FnExactGetInUptoSaid : Prop := fnExactGetInUptoRow.holds Try.pinned (OpenSpec.upto fnExactGetInSpec)

/-- 'laws.FnValues', WHERE WHAT IT READS IS OF BULK AT MOST 1048576: true; the input reads as it did. -/
def fnValuesUptoRow : OpenClaim := { program := "ytfgobagibkbocaa", sum := "7f8cdebad2e6c2d714bac6d80222a546b27deb49e9ce76ea65ae9436adc26dd2", func := "loop.example/g00290/laws.FnValues", spec := "fnValues", apart := false, narrowed := true }
def FnValuesUptoSaid : Prop := fnValuesUptoRow.holds Try.pinned (OpenSpec.upto fnValuesSpec)

/-- 'laws.FnExactSignText', WHERE WHAT IT READS IS OF BULK AT MOST 1048576: true; the input reads as it did. -/
def fnExactSignTextUptoRow : OpenClaim := { program := "ytfgobagibkbocaa", sum := "7f8cdebad2e6c2d714bac6d80222a546b27deb49e9ce76ea65ae9436adc26dd2", func := "loop.example/g00290/laws.FnExactSignText", spec := "fnExactSignText", inPlace := ["internal/abi.NoEscape", "internal/bytealg.MakeNoZero"], apart := false, narrowed := true }
def FnExactSignTextUptoSaid : Prop := fnExactSignTextUptoRow.holds Try.pinned (OpenSpec.upto fnExactSignTextSpec)

end Rows
end Go.Proofs.Ytfgobagibkbocaa
