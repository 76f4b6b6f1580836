/-
  No cell of these rows narrows 'for every input' (looked for: loops, veiled, ifaces, maps, wideKeys, modest, calm, conditions, laid).
  DERIVED. THE GIVEN ROWS OF THIS SEAT. 10 by the template 'for every input the law returns true; each argument reads behind the call as it read before'; 0 by the template 'total and deterministic' (their statements: YtegeahiflkjhmaaTotals.lean).
  GIVEN WITH THE SEED: the statements are not yours to turn. If you find one false, say at which input.
  Laid BY PROGRAM, IN A SANDBOX (cutbox-rows.mjs): the forced cells as the released guide's own fill.sh prints them over the translation 00476714bce5000f… (all of the seat's roots in one cut). By AI agents, Wed Nov 11 2026. No macro, syntax, notation, axiom, sorry.
-/
import Derived.Test.YtegeahiflkjhmaaChecked
import GoSem.Claim
import GoSem.ClaimJoined
import GoSem.ClaimMapViews
import Derived.JoinedTies
import Derived.KernelRfl
namespace Go.Proofs.Ytegeahiflkjhmaa
/- THE CELL 'sum', in the pinned program and in every row, IS THE sha256 OF THE DUMP (.gsa) THAT YtegeahiflkjhmaaProg.lean LOADS. Nothing in Lean hashes anything: it is a label: what it is worth is what the hold of that sum in a sandbox is worth. -/
noncomputable def Try.pinned : Pinned := { name := "ytegeahiflkjhmaa", sum := "00476714bce5000f9a7c0ffc2380c1a06310aae866b35f41590c6e4a0ec021c6", checked := Try.checked }
namespace Rows
def none {H : Type} : Left H := { results := [], args := [] }

/-- 'laws.FnExactEnvOk': WHATEVER THE INPUT: true; the input reads as it did. -/
def fnExactEnvOkSpec : ChangeSpec := { name := "fnExactEnvOk", fn := fun _ => fun
  | [d] => { results := [.lit (.bool true)], args := [d] }
  | _ => none }
def fnExactEnvOkRow : OpenClaim := { program := "ytegeahiflkjhmaa", sum := "00476714bce5000f9a7c0ffc2380c1a06310aae866b35f41590c6e4a0ec021c6", func := "loop.example/g00290/laws.FnExactEnvOk", spec := "fnExactEnvOk", unfollowed := true, recurses := true, apart := false }
def FnExactEnvOkSaid : Prop := fnExactEnvOkRow.holds Try.pinned (OpenSpec.ofChange fnExactEnvOkSpec)

/-- ITS FALSE NEIGHBOUR: 'it returns false'. Refute it at one input. -/
def fnExactEnvOkWrong : ChangeSpec := { name := "fnExactEnvOk", fn := fun _ => fun
  | [d] => { results := [.lit (.bool false)], args := [d] }
  | _ => none }
def FnExactEnvOkWrongFalsely : Prop := fnExactEnvOkRow.holds Try.pinned (OpenSpec.ofChange fnExactEnvOkWrong)

/-- 'laws.FnExactPutIn': WHATEVER THE INPUT: true; the input reads as it did. -/
def fnExactPutInSpec : ChangeSpec := { name := "fnExactPutIn", fn := fun _ => fun
  | [d1, d2, d3] => { results := [.lit (.bool true)], args := [d1, d2, d3] }
  | _ => none }
def fnExactPutInRow : OpenClaim := { program := "ytegeahiflkjhmaa", sum := "00476714bce5000f9a7c0ffc2380c1a06310aae866b35f41590c6e4a0ec021c6", func := "loop.example/g00290/laws.FnExactPutIn", spec := "fnExactPutIn", apart := false }
def FnExactPutInSaid : Prop := fnExactPutInRow.holds Try.pinned (OpenSpec.ofChange fnExactPutInSpec)

/-- ITS FALSE NEIGHBOUR: 'it returns false'. Refute it at one input. -/
def fnExactPutInWrong : ChangeSpec := { name := "fnExactPutIn", fn := fun _ => fun
  | [d1, d2, d3] => { results := [.lit (.bool false)], args := [d1, d2, d3] }
  | _ => none }
def FnExactPutInWrongFalsely : Prop := fnExactPutInRow.holds Try.pinned (OpenSpec.ofChange fnExactPutInWrong)

/-- 'laws.FnExactTogether': WHATEVER THE INPUT: true; the input reads as it did. -/
def fnExactTogetherSpec : ChangeSpec := { name := "fnExactTogether", fn := fun _ => fun
  | [d1, d2] => { results := [.lit (.bool true)], args := [d1, d2] }
  | _ => none }
def fnExactTogetherRow : OpenClaim := { program := "ytegeahiflkjhmaa", sum := "00476714bce5000f9a7c0ffc2380c1a06310aae866b35f41590c6e4a0ec021c6", func := "loop.example/g00290/laws.FnExactTogether", spec := "fnExactTogether", apart := false }
def FnExactTogetherSaid : Prop := fnExactTogetherRow.holds Try.pinned (OpenSpec.ofChange fnExactTogetherSpec)

/-- ITS FALSE NEIGHBOUR: 'it returns false'. Refute it at one input. -/
def fnExactTogetherWrong : ChangeSpec := { name := "fnExactTogether", fn := fun _ => fun
  | [d1, d2] => { results := [.lit (.bool false)], args := [d1, d2] }
  | _ => none }
def FnExactTogetherWrongFalsely : Prop := fnExactTogetherRow.holds Try.pinned (OpenSpec.ofChange fnExactTogetherWrong)

/-- 'laws.FnExactPast': WHATEVER THE INPUT: true; the input reads as it did. -/
def fnExactPastSpec : ChangeSpec := { name := "fnExactPast", fn := fun _ => fun
  | [d] => { results := [.lit (.bool true)], args := [d] }
  | _ => none }
def fnExactPastRow : OpenClaim := { program := "ytegeahiflkjhmaa", sum := "00476714bce5000f9a7c0ffc2380c1a06310aae866b35f41590c6e4a0ec021c6", func := "loop.example/g00290/laws.FnExactPast", spec := "fnExactPast", apart := false }
def FnExactPastSaid : Prop := fnExactPastRow.holds Try.pinned (OpenSpec.ofChange fnExactPastSpec)

/-- ITS FALSE NEIGHBOUR: 'it returns false'. Refute it at one input. -/
def fnExactPastWrong : ChangeSpec := { name := "fnExactPast", fn := fun _ => fun
  | [d] => { results := [.lit (.bool false)], args := [d] }
  | _ => none }
def FnExactPastWrongFalsely : Prop := fnExactPastRow.holds Try.pinned (OpenSpec.ofChange fnExactPastWrong)

/-- 'laws.FnExactSignsOf': WHATEVER THE INPUT: true; the input reads as it did. -/
def fnExactSignsOfSpec : ChangeSpec := { name := "fnExactSignsOf", fn := fun _ => fun
  | [d] => { results := [.lit (.bool true)], args := [d] }
  | _ => none }
def fnExactSignsOfRow : OpenClaim := { program := "ytegeahiflkjhmaa", sum := "00476714bce5000f9a7c0ffc2380c1a06310aae866b35f41590c6e4a0ec021c6", func := "loop.example/g00290/laws.FnExactSignsOf", spec := "fnExactSignsOf", inPlace := ["internal/bytealg.IndexByteString"], unfollowed := true, recurses := true, apart := false }
def FnExactSignsOfSaid : Prop := fnExactSignsOfRow.holds Try.pinned (OpenSpec.ofChange fnExactSignsOfSpec)

/-- ITS FALSE NEIGHBOUR: 'it returns false'. Refute it at one input. -/
def fnExactSignsOfWrong : ChangeSpec := { name := "fnExactSignsOf", fn := fun _ => fun
  | [d] => { results := [.lit (.bool false)], args := [d] }
  | _ => none }
def FnExactSignsOfWrongFalsely : Prop := fnExactSignsOfRow.holds Try.pinned (OpenSpec.ofChange fnExactSignsOfWrong)

/-- 'laws.FnEnvs': WHATEVER THE INPUT: true; the input reads as it did. -/
def fnEnvsSpec : ChangeSpec := { name := "fnEnvs", fn := fun _ => fun
  | [d] => { results := [.lit (.bool true)], args := [d] }
  | _ => none }
def fnEnvsRow : OpenClaim := { program := "ytegeahiflkjhmaa", sum := "00476714bce5000f9a7c0ffc2380c1a06310aae866b35f41590c6e4a0ec021c6", func := "loop.example/g00290/laws.FnEnvs", spec := "fnEnvs", unfollowed := true, recurses := true, apart := false }
def FnEnvsSaid : Prop := fnEnvsRow.holds Try.pinned (OpenSpec.ofChange fnEnvsSpec)

/-- ITS FALSE NEIGHBOUR: 'it returns false'. Refute it at one input. -/
def fnEnvsWrong : ChangeSpec := { name := "fnEnvs", fn := fun _ => fun
  | [d] => { results := [.lit (.bool false)], args := [d] }
  | _ => none }
def FnEnvsWrongFalsely : Prop := fnEnvsRow.holds Try.pinned (OpenSpec.ofChange fnEnvsWrong)

/-- 'laws.FnExactMonitorAt': WHATEVER THE INPUT: true; the input reads as it did. -/
def fnExactMonitorAtSpec : ChangeSpec := { name := "fnExactMonitorAt", fn := fun _ => fun
  | [d1, d2] => { results := [.lit (.bool true)], args := [d1, d2] }
  | _ => none }
def fnExactMonitorAtRow : OpenClaim := { program := "ytegeahiflkjhmaa", sum := "00476714bce5000f9a7c0ffc2380c1a06310aae866b35f41590c6e4a0ec021c6", func := "loop.example/g00290/laws.FnExactMonitorAt", spec := "fnExactMonitorAt", unfollowed := true, recurses := true, apart := false }
def FnExactMonitorAtSaid : Prop := fnExactMonitorAtRow.holds Try.pinned (OpenSpec.ofChange fnExactMonitorAtSpec)

/-- ITS FALSE NEIGHBOUR: 'it returns false'. Refute it at one input. -/
def fnExactMonitorAtWrong : ChangeSpec := { name := "fnExactMonitorAt", fn := fun _ => fun
  | [d1, d2] => { results := [.lit (.bool false)], args := [d1, d2] }
  | _ => none }
def FnExactMonitorAtWrongFalsely : Prop := fnExactMonitorAtRow.holds Try.pinned (OpenSpec.ofChange fnExactMonitorAtWrong)

/-- 'laws.FnExactEntryAt': WHATEVER THE INPUT: true; the input reads as it did. -/
def fnExactEntryAtSpec : ChangeSpec := { name := "fnExactEntryAt", fn := fun _ => fun
  | [d1, d2, d3] => { results := [.lit (.bool true)], args := [d1, d2, d3] }
  | _ => none }
def fnExactEntryAtRow : OpenClaim := { program := "ytegeahiflkjhmaa", sum := "00476714bce5000f9a7c0ffc2380c1a06310aae866b35f41590c6e4a0ec021c6", func := "loop.example/g00290/laws.FnExactEntryAt", spec := "fnExactEntryAt", unfollowed := true, recurses := true, apart := false }
def FnExactEntryAtSaid : Prop := fnExactEntryAtRow.holds Try.pinned (OpenSpec.ofChange fnExactEntryAtSpec)

/-- ITS FALSE NEIGHBOUR: 'it returns false'. Refute it at one input. -/
def fnExactEntryAtWrong : ChangeSpec := { name := "fnExactEntryAt", fn := fun _ => fun
  | [d1, d2, d3] => { results := [.lit (.bool false)], args := [d1, d2, d3] }
  | _ => none }
def FnExactEntryAtWrongFalsely : Prop := fnExactEntryAtRow.holds Try.pinned (OpenSpec.ofChange fnExactEntryAtWrong)

/-- 'laws.FnExactUses': WHATEVER THE INPUT: true; the input reads as it did. -/
def fnExactUsesSpec : ChangeSpec := { name := "fnExactUses", fn := fun _ => fun
  | [d1, d2, d3] => { results := [.lit (.bool true)], args := [d1, d2, d3] }
  | _ => none }
def fnExactUsesRow : OpenClaim := { program := "ytegeahiflkjhmaa", sum := "00476714bce5000f9a7c0ffc2380c1a06310aae866b35f41590c6e4a0ec021c6", func := "loop.example/g00290/laws.FnExactUses", spec := "fnExactUses", apart := false }
def FnExactUsesSaid : Prop := fnExactUsesRow.holds Try.pinned (OpenSpec.ofChange fnExactUsesSpec)

/-- ITS FALSE NEIGHBOUR: 'it returns false'. Refute it at one input. -/
def fnExactUsesWrong : ChangeSpec := { name := "fnExactUses", fn := fun _ => fun
  | [d1, d2, d3] => { results := [.lit (.bool false)], args := [d1, d2, d3] }
  | _ => none }
def FnExactUsesWrongFalsely : Prop := fnExactUsesRow.holds Try.pinned (OpenSpec.ofChange fnExactUsesWrong)

/-- 'laws.FnExactSameProgram': WHATEVER THE INPUT: true; the input reads as it did. -/
def fnExactSameProgramSpec : ChangeSpec := { name := "fnExactSameProgram", fn := fun _ => fun
  | [d1, d2] => { results := [.lit (.bool true)], args := [d1, d2] }
  | _ => none }
def fnExactSameProgramRow : OpenClaim := { program := "ytegeahiflkjhmaa", sum := "00476714bce5000f9a7c0ffc2380c1a06310aae866b35f41590c6e4a0ec021c6", func := "loop.example/g00290/laws.FnExactSameProgram", spec := "fnExactSameProgram", unfollowed := true, recurses := true, apart := false }
def FnExactSameProgramSaid : Prop := fnExactSameProgramRow.holds Try.pinned (OpenSpec.ofChange fnExactSameProgramSpec)

/-- ITS FALSE NEIGHBOUR: 'it returns false'. Refute it at one input. -/
def fnExactSameProgramWrong : ChangeSpec := { name := "fnExactSameProgram", fn := fun _ => fun
  | [d1, d2] => { results := [.lit (.bool false)], args := [d1, d2] }
  | _ => none }
def FnExactSameProgramWrongFalsely : Prop := fnExactSameProgramRow.holds Try.pinned (OpenSpec.ofChange fnExactSameProgramWrong)

/- THE SECOND FORM. 'bulk': how many values and letters a reading holds, each counted each time it is reached (what is shared counts as often as it is met; a slice's spare places count too). A statement '..UptoSaid' is the law's where the arguments, and the package variables that the reading takes, are together of bulk at most 1048576: NARROWER than '..Said'. Prove '..Said' where nothing that the law and all that it calls make is longer than what came in: it says more and counts as full. Else prove '..UptoSaid'. A law counts once. -/
mutual
def uptoBulk {H : Type} : DataW H → Nat
  | .lit (.string bytes) => bytes.length + 1
  | .lit _ => 1
  | .nil => 1
  | .ptr d => uptoBulk d + 1
  | .slice elems spare => uptoBulkAll elems + uptoBulkAll spare + 1
  | .agg parts => uptoBulkAll parts + 1
  | .iface _ d => uptoBulk d + 1
  | .map entries => uptoBulkEntries entries + 1
  | .held _ => 1
def uptoBulkAll {H : Type} : List (DataW H) → Nat
  | [] => 0
  | d :: r => uptoBulk d + uptoBulkAll r
def uptoBulkEntries {H : Type} : List (Lit × DataW H) → Nat
  | [] => 0
  | x :: r => uptoBulkEntry x + uptoBulkEntries r
def uptoBulkEntry {H : Type} : Lit × DataW H → Nat
  | (.string bytes, d) => bytes.length + uptoBulk d + 1
  | (_, d) => uptoBulk d + 1
 end
def uptoSmall : (H : Type) → List (DataW H) → Bool := fun _ ds => decide (uptoBulkAll ds ≤ 1048576)
def OpenSpec.upto (s : _root_.Go.ChangeSpec) : _root_.Go.OpenSpec := { _root_.Go.OpenSpec.ofChange s with cond := some uptoSmall }

/-- 'laws.FnExactEnvOk', WHERE WHAT IT READS IS OF BULK AT MOST 1048576: true; the input reads as it did. -/
def fnExactEnvOkUptoRow : OpenClaim := { program := "ytegeahiflkjhmaa", sum := "00476714bce5000f9a7c0ffc2380c1a06310aae866b35f41590c6e4a0ec021c6", func := "loop.example/g00290/laws.FnExactEnvOk", spec := "fnExactEnvOk", unfollowed := true, recurses := true, apart := false, narrowed := true }
def FnExactEnvOkUptoSaid : Prop := fnExactEnvOkUptoRow.holds Try.pinned (OpenSpec.upto fnExactEnvOkSpec)

/-- 'laws.FnExactPutIn', WHERE WHAT IT READS IS OF BULK AT MOST 1048576: true; the input reads as it did. -/
def fnExactPutInUptoRow : OpenClaim := { program := "ytegeahiflkjhmaa", sum := "00476714bce5000f9a7c0ffc2380c1a06310aae866b35f41590c6e4a0ec021c6", func := "loop.example/g00290/laws.FnExactPutIn", spec := "fnExactPutIn", apart := false, narrowed := true }
def FnExactPutInUptoSaid : Prop := fnExactPutInUptoRow.holds Try.pinned (OpenSpec.upto fnExactPutInSpec)

/-- 'laws.FnExactTogether', WHERE WHAT IT READS IS OF BULK AT MOST 1048576: true; the input reads as it did. -/
def fnExactTogetherUptoRow : OpenClaim := { program := "ytegeahiflkjhmaa", sum := "00476714bce5000f9a7c0ffc2380c1a06310aae866b35f41590c6e4a0ec021c6", func := "loop.example/g00290/laws.FnExactTogether", spec := "fnExactTogether", apart := false, narrowed := true }
def FnExactTogetherUptoSaid : Prop := fnExactTogetherUptoRow.holds Try.pinned (OpenSpec.upto fnExactTogetherSpec)

/-- 'laws.FnExactPast', WHERE WHAT IT READS IS OF BULK AT MOST 1048576: true; the input reads as it did. -/
def fnExactPastUptoRow : OpenClaim := { program := "ytegeahiflkjhmaa", sum := "00476714bce5000f9a7c0ffc2380c1a06310aae866b35f41590c6e4a0ec021c6", func := "loop.example/g00290/laws.FnExactPast", spec := "fnExactPast", apart := false, narrowed := true }
def FnExactPastUptoSaid : Prop := fnExactPastUptoRow.holds Try.pinned (OpenSpec.upto fnExactPastSpec)

/-- 'laws.FnExactSignsOf', WHERE WHAT IT READS IS OF BULK AT MOST 1048576: true; the input reads as it did. -/
def fnExactSignsOfUptoRow : OpenClaim := { program := "ytegeahiflkjhmaa", sum := "00476714bce5000f9a7c0ffc2380c1a06310aae866b35f41590c6e4a0ec021c6", func := "loop.example/g00290/laws.FnExactSignsOf", spec := "fnExactSignsOf", inPlace := ["internal/bytealg.IndexByteString"], unfollowed := true, recurses := true, apart := false, narrowed := true }
def FnExactSignsOfUptoSaid : Prop := fnExactSignsOfUptoRow.holds Try.pinned (OpenSpec.upto fnExactSignsOfSpec)

/-- 'laws.FnEnvs', WHERE WHAT IT READS IS OF BULK AT MOST 1048576: true; the input reads as it did. -/
def fnEnvsUptoRow : OpenClaim := { program := "ytegeahiflkjhmaa", sum := "00476714bce5000f9a7c0ffc2380c1a06310aae866b35f41590c6e4a0ec021c6", func := "loop.example/g00290/laws.FnEnvs", spec := "fnEnvs", unfollowed := true, recurses := true, apart := false, narrowed := true }
def FnEnvsUptoSaid : Prop := fnEnvsUptoRow.holds Try.pinned (OpenSpec.upto fnEnvsSpec)

/-- 'laws.FnExactMonitorAt', WHERE WHAT IT READS IS OF BULK AT MOST 1048576: true; the input reads as it did. -/
def fnExactMonitorAtUptoRow : OpenClaim := { program := "ytegeahiflkjhmaa", sum := "00476714bce5000f9a7c0ffc2380c1a06310aae866b35f41590c6e4a0ec021c6", func := "loop.example/g00290/laws.FnExactMonitorAt", spec := "fnExactMonitorAt", unfollowed := true, recurses := true, apart := false, narrowed := true }
def FnExactMonitorAtUptoSaid : Prop := fnExactMonitorAtUptoRow.holds Try.pinned (OpenSpec.upto fnExactMonitorAtSpec)

/-- 'laws.FnExactEntryAt', WHERE WHAT IT READS IS OF BULK AT MOST 1048576: true; the input reads as it did. -/
def fnExactEntryAtUptoRow : OpenClaim := { program := "ytegeahiflkjhmaa", sum := "00476714bce5000f9a7c0ffc2380c1a06310aae866b35f41590c6e4a0ec021c6", func := "loop.example/g00290/laws.FnExactEntryAt", spec := "fnExactEntryAt", unfollowed := true, recurses := true, apart := false, narrowed := true }
def FnExactEntryAtUptoSaid : Prop := fnExactEntryAtUptoRow.holds Try.pinned (OpenSpec.upto fnExactEntryAtSpec)

/-- 'laws.FnExactUses', WHERE WHAT IT READS IS OF BULK AT MOST 1048576: true; the input reads as it did. -/
def fnExactUsesUptoRow : OpenClaim := { program := "ytegeahiflkjhmaa", sum := "00476714bce5000f9a7c0ffc2380c1a06310aae866b35f41590c6e4a0ec021c6", func := "loop.example/g00290/laws.FnExactUses", spec := "fnExactUses", apart := false, narrowed := true }
def FnExactUsesUptoSaid : Prop := fnExactUsesUptoRow.holds Try.pinned (OpenSpec.upto fnExactUsesSpec)

/-- 'laws.FnExactSameProgram', WHERE WHAT IT READS IS OF BULK AT MOST 1048576: true; the input reads as it did. -/
def fnExactSameProgramUptoRow : OpenClaim := { program := "ytegeahiflkjhmaa", sum := "00476714bce5000f9a7c0ffc2380c1a06310aae866b35f41590c6e4a0ec021c6", func := "loop.example/g00290/laws.FnExactSameProgram", spec := "fnExactSameProgram", unfollowed := true, recurses := true, apart := false, narrowed := true }
def FnExactSameProgramUptoSaid : Prop := fnExactSameProgramUptoRow.holds Try.pinned (OpenSpec.upto fnExactSameProgramSpec)

end Rows
end Go.Proofs.Ytegeahiflkjhmaa
