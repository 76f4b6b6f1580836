/-
  No cell of these rows narrows 'for every input' (looked for: loops, veiled, ifaces, maps, wideKeys, modest, calm, conditions, laid).
  DERIVED. THE GIVEN ROWS OF THIS SEAT. 10 by the template 'for every input the law returns true; each argument reads behind the call as it read before'; 0 by the template 'total and deterministic' (their statements: YtmbkcbgbienjoaaTotals.lean).
  GIVEN WITH THE SEED: the statements are not yours to turn. If you find one false, say at which input.
  Laid BY PROGRAM, IN A SANDBOX (cutbox-rows.mjs): the forced cells as the released guide's own fill.sh prints them over the translation b07bae68e5b5c3e5… (all of the seat's roots in one cut). By AI agents, Wed Nov 11 2026. No macro, syntax, notation, axiom, sorry.
-/
import Derived.Test.YtmbkcbgbienjoaaChecked
import GoSem.Claim
import GoSem.ClaimJoined
import GoSem.ClaimMapViews
import Derived.JoinedTies
import Derived.KernelRfl
namespace Go.Proofs.Ytmbkcbgbienjoaa
/- THE CELL 'sum', in the pinned program and in every row, IS THE sha256 OF THE DUMP (.gsa) THAT YtmbkcbgbienjoaaProg.lean LOADS. Nothing in Lean hashes anything: it is a label: what it is worth is what the hold of that sum in a sandbox is worth. -/
noncomputable def Try.pinned : Pinned := { name := "ytmbkcbgbienjoaa", sum := "b07bae68e5b5c3e5647df955083ac6250d16f39b5d8d12fe138c45976a02d3a0", checked := Try.checked }
namespace Rows
def none {H : Type} : Left H := { results := [], args := [] }

/-- 'laws.FnExactStateOf': WHATEVER THE INPUT: true; the input reads as it did. -/
def fnExactStateOfSpec : ChangeSpec := { name := "fnExactStateOf", fn := fun _ => fun
  | [d1, d2] => { results := [.lit (.bool true)], args := [d1, d2] }
  | _ => none }
def fnExactStateOfRow : OpenClaim := { program := "ytmbkcbgbienjoaa", sum := "b07bae68e5b5c3e5647df955083ac6250d16f39b5d8d12fe138c45976a02d3a0", func := "loop.example/g00290/laws.FnExactStateOf", spec := "fnExactStateOf", apart := false }
def FnExactStateOfSaid : Prop := fnExactStateOfRow.holds Try.pinned (OpenSpec.ofChange fnExactStateOfSpec)

/-- ITS FALSE NEIGHBOUR: 'it returns false'. Refute it at one input. -/
def fnExactStateOfWrong : ChangeSpec := { name := "fnExactStateOf", fn := fun _ => fun
  | [d1, d2] => { results := [.lit (.bool false)], args := [d1, d2] }
  | _ => none }
def FnExactStateOfWrongFalsely : Prop := fnExactStateOfRow.holds Try.pinned (OpenSpec.ofChange fnExactStateOfWrong)

/-- 'laws.FnExactUsersOf': WHATEVER THE INPUT: true; the input reads as it did. -/
def fnExactUsersOfSpec : ChangeSpec := { name := "fnExactUsersOf", fn := fun _ => fun
  | [d1, d2] => { results := [.lit (.bool true)], args := [d1, d2] }
  | _ => none }
def fnExactUsersOfRow : OpenClaim := { program := "ytmbkcbgbienjoaa", sum := "b07bae68e5b5c3e5647df955083ac6250d16f39b5d8d12fe138c45976a02d3a0", func := "loop.example/g00290/laws.FnExactUsersOf", spec := "fnExactUsersOf", apart := false }
def FnExactUsersOfSaid : Prop := fnExactUsersOfRow.holds Try.pinned (OpenSpec.ofChange fnExactUsersOfSpec)

/-- ITS FALSE NEIGHBOUR: 'it returns false'. Refute it at one input. -/
def fnExactUsersOfWrong : ChangeSpec := { name := "fnExactUsersOf", fn := fun _ => fun
  | [d1, d2] => { results := [.lit (.bool false)], args := [d1, d2] }
  | _ => none }
def FnExactUsersOfWrongFalsely : Prop := fnExactUsersOfRow.holds Try.pinned (OpenSpec.ofChange fnExactUsersOfWrong)

/-- 'laws.FnExactThreadNew': WHATEVER THE INPUT: true; the input reads as it did. -/
def fnExactThreadNewSpec : ChangeSpec := { name := "fnExactThreadNew", fn := fun _ => fun
  | [d1, d2, d3] => { results := [.lit (.bool true)], args := [d1, d2, d3] }
  | _ => none }
def fnExactThreadNewRow : OpenClaim := { program := "ytmbkcbgbienjoaa", sum := "b07bae68e5b5c3e5647df955083ac6250d16f39b5d8d12fe138c45976a02d3a0", func := "loop.example/g00290/laws.FnExactThreadNew", spec := "fnExactThreadNew", apart := false }
def FnExactThreadNewSaid : Prop := fnExactThreadNewRow.holds Try.pinned (OpenSpec.ofChange fnExactThreadNewSpec)

/-- ITS FALSE NEIGHBOUR: 'it returns false'. Refute it at one input. -/
def fnExactThreadNewWrong : ChangeSpec := { name := "fnExactThreadNew", fn := fun _ => fun
  | [d1, d2, d3] => { results := [.lit (.bool false)], args := [d1, d2, d3] }
  | _ => none }
def FnExactThreadNewWrongFalsely : Prop := fnExactThreadNewRow.holds Try.pinned (OpenSpec.ofChange fnExactThreadNewWrong)

/-- 'laws.FnExactNodeOk': WHATEVER THE INPUT: true; the input reads as it did. -/
def fnExactNodeOkSpec : ChangeSpec := { name := "fnExactNodeOk", fn := fun _ => fun
  | [d1, d2] => { results := [.lit (.bool true)], args := [d1, d2] }
  | _ => none }
def fnExactNodeOkRow : OpenClaim := { program := "ytmbkcbgbienjoaa", sum := "b07bae68e5b5c3e5647df955083ac6250d16f39b5d8d12fe138c45976a02d3a0", func := "loop.example/g00290/laws.FnExactNodeOk", spec := "fnExactNodeOk", unfollowed := true, recurses := true, apart := false }
def FnExactNodeOkSaid : Prop := fnExactNodeOkRow.holds Try.pinned (OpenSpec.ofChange fnExactNodeOkSpec)

/-- ITS FALSE NEIGHBOUR: 'it returns false'. Refute it at one input. -/
def fnExactNodeOkWrong : ChangeSpec := { name := "fnExactNodeOk", fn := fun _ => fun
  | [d1, d2] => { results := [.lit (.bool false)], args := [d1, d2] }
  | _ => none }
def FnExactNodeOkWrongFalsely : Prop := fnExactNodeOkRow.holds Try.pinned (OpenSpec.ofChange fnExactNodeOkWrong)

/-- 'laws.FnExactDeepOf': WHATEVER THE INPUT: true; the input reads as it did. -/
def fnExactDeepOfSpec : ChangeSpec := { name := "fnExactDeepOf", fn := fun _ => fun
  | [d1, d2] => { results := [.lit (.bool true)], args := [d1, d2] }
  | _ => none }
def fnExactDeepOfRow : OpenClaim := { program := "ytmbkcbgbienjoaa", sum := "b07bae68e5b5c3e5647df955083ac6250d16f39b5d8d12fe138c45976a02d3a0", func := "loop.example/g00290/laws.FnExactDeepOf", spec := "fnExactDeepOf", unfollowed := true, recurses := true, apart := false }
def FnExactDeepOfSaid : Prop := fnExactDeepOfRow.holds Try.pinned (OpenSpec.ofChange fnExactDeepOfSpec)

/-- ITS FALSE NEIGHBOUR: 'it returns false'. Refute it at one input. -/
def fnExactDeepOfWrong : ChangeSpec := { name := "fnExactDeepOf", fn := fun _ => fun
  | [d1, d2] => { results := [.lit (.bool false)], args := [d1, d2] }
  | _ => none }
def FnExactDeepOfWrongFalsely : Prop := fnExactDeepOfRow.holds Try.pinned (OpenSpec.ofChange fnExactDeepOfWrong)

/-- 'laws.FnExactShared': WHATEVER THE INPUT: true; the input reads as it did. -/
def fnExactSharedSpec : ChangeSpec := { name := "fnExactShared", fn := fun _ => fun
  | [d1, d2] => { results := [.lit (.bool true)], args := [d1, d2] }
  | _ => none }
def fnExactSharedRow : OpenClaim := { program := "ytmbkcbgbienjoaa", sum := "b07bae68e5b5c3e5647df955083ac6250d16f39b5d8d12fe138c45976a02d3a0", func := "loop.example/g00290/laws.FnExactShared", spec := "fnExactShared", unfollowed := true, recurses := true, apart := false }
def FnExactSharedSaid : Prop := fnExactSharedRow.holds Try.pinned (OpenSpec.ofChange fnExactSharedSpec)

/-- ITS FALSE NEIGHBOUR: 'it returns false'. Refute it at one input. -/
def fnExactSharedWrong : ChangeSpec := { name := "fnExactShared", fn := fun _ => fun
  | [d1, d2] => { results := [.lit (.bool false)], args := [d1, d2] }
  | _ => none }
def FnExactSharedWrongFalsely : Prop := fnExactSharedRow.holds Try.pinned (OpenSpec.ofChange fnExactSharedWrong)

/-- 'laws.FnExactNodesUnder': WHATEVER THE INPUT: true; the input reads as it did. -/
def fnExactNodesUnderSpec : ChangeSpec := { name := "fnExactNodesUnder", fn := fun _ => fun
  | [d1, d2] => { results := [.lit (.bool true)], args := [d1, d2] }
  | _ => none }
def fnExactNodesUnderRow : OpenClaim := { program := "ytmbkcbgbienjoaa", sum := "b07bae68e5b5c3e5647df955083ac6250d16f39b5d8d12fe138c45976a02d3a0", func := "loop.example/g00290/laws.FnExactNodesUnder", spec := "fnExactNodesUnder", unfollowed := true, recurses := true, apart := false }
def FnExactNodesUnderSaid : Prop := fnExactNodesUnderRow.holds Try.pinned (OpenSpec.ofChange fnExactNodesUnderSpec)

/-- ITS FALSE NEIGHBOUR: 'it returns false'. Refute it at one input. -/
def fnExactNodesUnderWrong : ChangeSpec := { name := "fnExactNodesUnder", fn := fun _ => fun
  | [d1, d2] => { results := [.lit (.bool false)], args := [d1, d2] }
  | _ => none }
def FnExactNodesUnderWrongFalsely : Prop := fnExactNodesUnderRow.holds Try.pinned (OpenSpec.ofChange fnExactNodesUnderWrong)

/-- 'laws.FnExactProgramOk': WHATEVER THE INPUT: true; the input reads as it did. -/
def fnExactProgramOkSpec : ChangeSpec := { name := "fnExactProgramOk", fn := fun _ => fun
  | [d] => { results := [.lit (.bool true)], args := [d] }
  | _ => none }
def fnExactProgramOkRow : OpenClaim := { program := "ytmbkcbgbienjoaa", sum := "b07bae68e5b5c3e5647df955083ac6250d16f39b5d8d12fe138c45976a02d3a0", func := "loop.example/g00290/laws.FnExactProgramOk", spec := "fnExactProgramOk", unfollowed := true, recurses := true, apart := false }
def FnExactProgramOkSaid : Prop := fnExactProgramOkRow.holds Try.pinned (OpenSpec.ofChange fnExactProgramOkSpec)

/-- ITS FALSE NEIGHBOUR: 'it returns false'. Refute it at one input. -/
def fnExactProgramOkWrong : ChangeSpec := { name := "fnExactProgramOk", fn := fun _ => fun
  | [d] => { results := [.lit (.bool false)], args := [d] }
  | _ => none }
def FnExactProgramOkWrongFalsely : Prop := fnExactProgramOkRow.holds Try.pinned (OpenSpec.ofChange fnExactProgramOkWrong)

/-- 'laws.FnExactCallsOf': WHATEVER THE INPUT: true; the input reads as it did. -/
def fnExactCallsOfSpec : ChangeSpec := { name := "fnExactCallsOf", fn := fun _ => fun
  | [d1, d2] => { results := [.lit (.bool true)], args := [d1, d2] }
  | _ => none }
def fnExactCallsOfRow : OpenClaim := { program := "ytmbkcbgbienjoaa", sum := "b07bae68e5b5c3e5647df955083ac6250d16f39b5d8d12fe138c45976a02d3a0", func := "loop.example/g00290/laws.FnExactCallsOf", spec := "fnExactCallsOf", unfollowed := true, recurses := true, apart := false }
def FnExactCallsOfSaid : Prop := fnExactCallsOfRow.holds Try.pinned (OpenSpec.ofChange fnExactCallsOfSpec)

/-- ITS FALSE NEIGHBOUR: 'it returns false'. Refute it at one input. -/
def fnExactCallsOfWrong : ChangeSpec := { name := "fnExactCallsOf", fn := fun _ => fun
  | [d1, d2] => { results := [.lit (.bool false)], args := [d1, d2] }
  | _ => none }
def FnExactCallsOfWrongFalsely : Prop := fnExactCallsOfRow.holds Try.pinned (OpenSpec.ofChange fnExactCallsOfWrong)

/-- 'laws.FnExactValueOf': WHATEVER THE INPUT: true; the input reads as it did. -/
def fnExactValueOfSpec : ChangeSpec := { name := "fnExactValueOf", fn := fun _ => fun
  | [d1, d2, d3] => { results := [.lit (.bool true)], args := [d1, d2, d3] }
  | _ => none }
def fnExactValueOfRow : OpenClaim := { program := "ytmbkcbgbienjoaa", sum := "b07bae68e5b5c3e5647df955083ac6250d16f39b5d8d12fe138c45976a02d3a0", func := "loop.example/g00290/laws.FnExactValueOf", spec := "fnExactValueOf", unfollowed := true, recurses := true, apart := false }
def FnExactValueOfSaid : Prop := fnExactValueOfRow.holds Try.pinned (OpenSpec.ofChange fnExactValueOfSpec)

/-- ITS FALSE NEIGHBOUR: 'it returns false'. Refute it at one input. -/
def fnExactValueOfWrong : ChangeSpec := { name := "fnExactValueOf", fn := fun _ => fun
  | [d1, d2, d3] => { results := [.lit (.bool false)], args := [d1, d2, d3] }
  | _ => none }
def FnExactValueOfWrongFalsely : Prop := fnExactValueOfRow.holds Try.pinned (OpenSpec.ofChange fnExactValueOfWrong)

/- THE SECOND FORM. 'bulk': how many values and letters a reading holds, each counted each time it is reached (what is shared counts as often as it is met; a slice's spare places count too). A statement '..UptoSaid' is the law's where the arguments, and the package variables that the reading takes, are together of bulk at most 1048576: NARROWER than '..Said'. Prove '..Said' where nothing that the law and all that it calls make is longer than what came in: it says more and counts as full. Else prove '..UptoSaid'. A law counts once. -/
mutual
def uptoBulk {H : Type} : DataW H → Nat
  | .lit (.string bytes) => bytes.length + 1
  | .lit _ => 1
  | .nil => 1
  | .ptr d => uptoBulk d + 1
  | .slice elems spare => uptoBulkAll elems + uptoBulkAll spare + 1
  | .agg parts => uptoBulkAll parts + 1
  | .iface _ d => uptoBulk d + 1
  | .map entries => uptoBulkEntries entries + 1
  | .held _ => 1
def uptoBulkAll {H : Type} : List (DataW H) → Nat
  | [] => 0
  | d :: r => uptoBulk d + uptoBulkAll r
def uptoBulkEntries {H : Type} : List (Lit × DataW H) → Nat
  | [] => 0
  | x :: r => uptoBulkEntry x + uptoBulkEntries r
def uptoBulkEntry {H : Type} : Lit × DataW H → Nat
  | (.string bytes, d) => bytes.length + uptoBulk d + 1
  | (_, d) => uptoBulk d + 1
 end
def uptoSmall : (H : Type) → List (DataW H) → Bool := fun _ ds => decide (uptoBulkAll ds ≤ 1048576)
def OpenSpec.upto (s : _root_.Go.ChangeSpec) : _root_.Go.OpenSpec := { _root_.Go.OpenSpec.ofChange s with cond := some uptoSmall }

/-- 'laws.FnExactStateOf', WHERE WHAT IT READS IS OF BULK AT MOST 1048576: true; the input reads as it did. -/
def fnExactStateOfUptoRow : OpenClaim := { program := "ytmbkcbgbienjoaa", sum := "b07bae68e5b5c3e5647df955083ac6250d16f39b5d8d12fe138c45976a02d3a0", func := "loop.example/g00290/laws.FnExactStateOf", spec := "fnExactStateOf", apart := false, narrowed := true }
def FnExactStateOfUptoSaid : Prop := fnExactStateOfUptoRow.holds Try.pinned (OpenSpec.upto fnExactStateOfSpec)

/-- 'laws.FnExactUsersOf', WHERE WHAT IT READS IS OF BULK AT MOST 1048576: true; the input reads as it did. -/
def fnExactUsersOfUptoRow : OpenClaim := { program := "ytmbkcbgbienjoaa", sum := "b07bae68e5b5c3e5647df955083ac6250d16f39b5d8d12fe138c45976a02d3a0", func := "loop.example/g00290/laws.FnExactUsersOf", spec := "fnExactUsersOf", apart := false, narrowed := true }
def FnExactUsersOfUptoSaid : Prop := fnExactUsersOfUptoRow.holds Try.pinned (OpenSpec.upto fnExactUsersOfSpec)

/-- 'laws.FnExactThreadNew', WHERE WHAT IT READS IS OF BULK AT MOST 1048576: true; the input reads as it did. -/
def fnExactThreadNewUptoRow : OpenClaim := { program := "ytmbkcbgbienjoaa", sum := "b07bae68e5b5c3e5647df955083ac6250d16f39b5d8d12fe138c45976a02d3a0", func := "loop.example/g00290/laws.FnExactThreadNew", spec := "fnExactThreadNew", apart := false, narrowed := true }
def FnExactThreadNewUptoSaid : Prop := fnExactThreadNewUptoRow.holds Try.pinned (OpenSpec.upto fnExactThreadNewSpec)

/-- 'laws.FnExactNodeOk', WHERE WHAT IT READS IS OF BULK AT MOST 1048576: true; the input reads as it did. -/
def fnExactNodeOkUptoRow : OpenClaim := { program := "ytmbkcbgbienjoaa", sum := "b07bae68e5b5c3e5647df955083ac6250d16f39b5d8d12fe138c45976a02d3a0", func := "loop.example/g00290/laws.FnExactNodeOk", spec := "fnExactNodeOk", unfollowed := true, recurses := true, apart := false, narrowed := true }
def FnExactNodeOkUptoSaid : Prop := fnExactNodeOkUptoRow.holds Try.pinned (OpenSpec.upto fnExactNodeOkSpec)

/-- 'laws.FnExactDeepOf', WHERE WHAT IT READS IS OF BULK AT MOST 1048576: true; the input reads as it did. -/
def fnExactDeepOfUptoRow : OpenClaim := { program := "ytmbkcbgbienjoaa", sum := "b07bae68e5b5c3e5647df955083ac6250d16f39b5d8d12fe138c45976a02d3a0", func := "loop.example/g00290/laws.FnExactDeepOf", spec := "fnExactDeepOf", unfollowed := true, recurses := true, apart := false, narrowed := true }
def FnExactDeepOfUptoSaid : Prop := fnExactDeepOfUptoRow.holds Try.pinned (OpenSpec.upto fnExactDeepOfSpec)

/-- 'laws.FnExactShared', WHERE WHAT IT READS IS OF BULK AT MOST 1048576: true; the input reads as it did. -/
def fnExactSharedUptoRow : OpenClaim := { program := "ytmbkcbgbienjoaa", sum := "b07bae68e5b5c3e5647df955083ac6250d16f39b5d8d12fe138c45976a02d3a0", func := "loop.example/g00290/laws.FnExactShared", spec := "fnExactShared", unfollowed := true, recurses := true, apart := false, narrowed := true }
def FnExactSharedUptoSaid : Prop := fnExactSharedUptoRow.holds Try.pinned (OpenSpec.upto fnExactSharedSpec)

/-- 'laws.FnExactNodesUnder', WHERE WHAT IT READS IS OF BULK AT MOST 1048576: true; the input reads as it did. -/
def fnExactNodesUnderUptoRow : OpenClaim := { program := "ytmbkcbgbienjoaa", sum := "b07bae68e5b5c3e5647df955083ac6250d16f39b5d8d12fe138c45976a02d3a0", func := "loop.example/g00290/laws.FnExactNodesUnder", spec := "fnExactNodesUnder", unfollowed := true, recurses := true, apart := false, narrowed := true }
def FnExactNodesUnderUptoSaid : Prop := fnExactNodesUnderUptoRow.holds Try.pinned (OpenSpec.upto fnExactNodesUnderSpec)

/-- 'laws.FnExactProgramOk', WHERE WHAT IT READS IS OF BULK AT MOST 1048576: true; the input reads as it did. -/
def fnExactProgramOkUptoRow : OpenClaim := { program := "ytmbkcbgbienjoaa", sum := "b07bae68e5b5c3e5647df955083ac6250d16f39b5d8d12fe138c45976a02d3a0", func := "loop.example/g00290/laws.FnExactProgramOk", spec := "fnExactProgramOk", unfollowed := true, recurses := true, apart := false, narrowed := true }
def FnExactProgramOkUptoSaid : Prop := fnExactProgramOkUptoRow.holds Try.pinned (OpenSpec.upto fnExactProgramOkSpec)

/-- 'laws.FnExactCallsOf', WHERE WHAT IT READS IS OF BULK AT MOST 1048576: true; the input reads as it did. -/
def fnExactCallsOfUptoRow : OpenClaim := { program := "ytmbkcbgbienjoaa", sum := "b07bae68e5b5c3e5647df955083ac6250d16f39b5d8d12fe138c45976a02d3a0", func := "loop.example/g00290/laws.FnExactCallsOf", spec := "fnExactCallsOf", unfollowed := true, recurses := true, apart := false, narrowed := true }
def FnExactCallsOfUptoSaid : Prop := fnExactCallsOfUptoRow.holds Try.pinned (OpenSpec.upto fnExactCallsOfSpec)

/-- 'laws.FnExactValueOf', WHERE WHAT IT READS IS OF BULK AT MOST 1048576: true; the input reads as it did. -/
def fnExactValueOfUptoRow : OpenClaim := { program := "ytmbkcbgbienjoaa", sum := "b07bae68e5b5c3e5647df955083ac6250d16f39b5d8d12fe138c45976a02d3a0", func := "loop.example/g00290/laws.FnExactValueOf", spec := "fnExactValueOf", unfollowed := true, recurses := true, apart := false, narrowed := true }
def FnExactValueOfUptoSaid : Prop := fnExactValueOfUptoRow.holds Try.pinned (OpenSpec.upto fnExactValueOfSpec)

end Rows
end Go.Proofs.Ytmbkcbgbienjoaa
