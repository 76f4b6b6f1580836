/-
  No cell of these rows narrows 'for every input' (looked for: loops, veiled, ifaces, maps, wideKeys, modest, calm, conditions, laid).
  DERIVED. THE GIVEN ROWS OF THIS SEAT. 4 by the template 'for every input the law returns true; each argument reads behind the call as it read before'; 0 by the template 'total and deterministic' (their statements: YtjjhknklnclokaaGreatTotals.lean).
  GIVEN WITH THE SEED: the statements are not yours to turn. If you find one false, say at which input.
  Laid BY PROGRAM, IN A SANDBOX (cutbox-rows.mjs): the forced cells as the released guide's own fill.sh prints them over the translation ace5a77b16878cd3… (all of the seat's roots in one cut). By AI agents, Wed Nov 11 2026. No macro, syntax, notation, axiom, sorry.
-/
import Derived.Test.YtjjhknklnclokaaGreatChecked
import GoSem.Claim
import GoSem.ClaimJoined
import GoSem.ClaimMapViews
import Derived.JoinedTies
import Derived.KernelRfl
namespace Go.Proofs.YtjjhknklnclokaaGreat
/- THE CELL 'sum', in the pinned program and in every row, IS THE sha256 OF THE DUMP (.gsa) THAT YtjjhknklnclokaaGreatProg.lean LOADS. Nothing in Lean hashes anything: it is a label: what it is worth is what the hold of that sum in a sandbox is worth. -/
noncomputable def Tryz.pinned : Pinned := { name := "ytjjhknklnclokaagreat", sum := "ace5a77b16878cd37217c436be3ffb3481a02bfc56a9a1a4c9f185bbb62a03fe", checked := Tryz.checked }
namespace Rows
def none {H : Type} : Left H := { results := [], args := [] }

/-- 'laws.FnExactScopeOf': WHATEVER THE INPUT: true; the input reads as it did. -/
def fnExactScopeOfSpec : ChangeSpec := { name := "fnExactScopeOf", fn := fun _ => fun
  | [d] => { results := [.lit (.bool true)], args := [d] }
  | _ => none }
def fnExactScopeOfRow : OpenClaim := { program := "ytjjhknklnclokaagreat", sum := "ace5a77b16878cd37217c436be3ffb3481a02bfc56a9a1a4c9f185bbb62a03fe", func := "loop.example/g00290/laws.FnExactScopeOf", spec := "fnExactScopeOf", unfollowed := true, recurses := true, apart := false }
def FnExactScopeOfSaid : Prop := fnExactScopeOfRow.holds Tryz.pinned (OpenSpec.ofChange fnExactScopeOfSpec)

/-- ITS FALSE NEIGHBOUR: 'it returns false'. Refute it at one input. -/
def fnExactScopeOfWrong : ChangeSpec := { name := "fnExactScopeOf", fn := fun _ => fun
  | [d] => { results := [.lit (.bool false)], args := [d] }
  | _ => none }
def FnExactScopeOfWrongFalsely : Prop := fnExactScopeOfRow.holds Tryz.pinned (OpenSpec.ofChange fnExactScopeOfWrong)

/-- 'laws.FnExactGranted': WHATEVER THE INPUT: true; the input reads as it did. -/
def fnExactGrantedSpec : ChangeSpec := { name := "fnExactGranted", fn := fun _ => fun
  | [d] => { results := [.lit (.bool true)], args := [d] }
  | _ => none }
def fnExactGrantedRow : OpenClaim := { program := "ytjjhknklnclokaagreat", sum := "ace5a77b16878cd37217c436be3ffb3481a02bfc56a9a1a4c9f185bbb62a03fe", func := "loop.example/g00290/laws.FnExactGranted", spec := "fnExactGranted", unfollowed := true, recurses := true, apart := false }
def FnExactGrantedSaid : Prop := fnExactGrantedRow.holds Tryz.pinned (OpenSpec.ofChange fnExactGrantedSpec)

/-- ITS FALSE NEIGHBOUR: 'it returns false'. Refute it at one input. -/
def fnExactGrantedWrong : ChangeSpec := { name := "fnExactGranted", fn := fun _ => fun
  | [d] => { results := [.lit (.bool false)], args := [d] }
  | _ => none }
def FnExactGrantedWrongFalsely : Prop := fnExactGrantedRow.holds Tryz.pinned (OpenSpec.ofChange fnExactGrantedWrong)

/-- 'laws.FnExactStepThread': WHATEVER THE INPUT: true; the input reads as it did. -/
def fnExactStepThreadSpec : ChangeSpec := { name := "fnExactStepThread", fn := fun _ => fun
  | [d1, d2] => { results := [.lit (.bool true)], args := [d1, d2] }
  | _ => none }
def fnExactStepThreadRow : OpenClaim := { program := "ytjjhknklnclokaagreat", sum := "ace5a77b16878cd37217c436be3ffb3481a02bfc56a9a1a4c9f185bbb62a03fe", func := "loop.example/g00290/laws.FnExactStepThread", spec := "fnExactStepThread", unfollowed := true, recurses := true, apart := false }
def FnExactStepThreadSaid : Prop := fnExactStepThreadRow.holds Tryz.pinned (OpenSpec.ofChange fnExactStepThreadSpec)

/-- ITS FALSE NEIGHBOUR: 'it returns false'. Refute it at one input. -/
def fnExactStepThreadWrong : ChangeSpec := { name := "fnExactStepThread", fn := fun _ => fun
  | [d1, d2] => { results := [.lit (.bool false)], args := [d1, d2] }
  | _ => none }
def FnExactStepThreadWrongFalsely : Prop := fnExactStepThreadRow.holds Tryz.pinned (OpenSpec.ofChange fnExactStepThreadWrong)

/-- 'laws.FnExactRunThread': WHATEVER THE INPUT: true; the input reads as it did. -/
def fnExactRunThreadSpec : ChangeSpec := { name := "fnExactRunThread", fn := fun _ => fun
  | [d1, d2, d3] => { results := [.lit (.bool true)], args := [d1, d2, d3] }
  | _ => none }
def fnExactRunThreadRow : OpenClaim := { program := "ytjjhknklnclokaagreat", sum := "ace5a77b16878cd37217c436be3ffb3481a02bfc56a9a1a4c9f185bbb62a03fe", func := "loop.example/g00290/laws.FnExactRunThread", spec := "fnExactRunThread", unfollowed := true, recurses := true, apart := false }
def FnExactRunThreadSaid : Prop := fnExactRunThreadRow.holds Tryz.pinned (OpenSpec.ofChange fnExactRunThreadSpec)

/-- ITS FALSE NEIGHBOUR: 'it returns false'. Refute it at one input. -/
def fnExactRunThreadWrong : ChangeSpec := { name := "fnExactRunThread", fn := fun _ => fun
  | [d1, d2, d3] => { results := [.lit (.bool false)], args := [d1, d2, d3] }
  | _ => none }
def FnExactRunThreadWrongFalsely : Prop := fnExactRunThreadRow.holds Tryz.pinned (OpenSpec.ofChange fnExactRunThreadWrong)

/- THE SECOND FORM. 'bulk': how many values and letters a reading holds, each counted each time it is reached (what is shared counts as often as it is met; a slice's spare places count too). A statement '..UptoSaid' is the law's where the arguments, and the package variables that the reading takes, are together of bulk at most 1048576: NARROWER than '..Said'. Prove '..Said' where nothing that the law and all that it calls make is longer than what came in: it says more and counts as full. Else prove '..UptoSaid'. A law counts once. -/
mutual
def uptoBulk {H : Type} : DataW H → Nat
  | .lit (.string bytes) => bytes.length + 1
  | .lit _ => 1
  | .nil => 1
  | .ptr d => uptoBulk d + 1
  | .slice elems spare => uptoBulkAll elems + uptoBulkAll spare + 1
  | .agg parts => uptoBulkAll parts + 1
  | .iface _ d => uptoBulk d + 1
  | .map entries => uptoBulkEntries entries + 1
  | .held _ => 1
def uptoBulkAll {H : Type} : List (DataW H) → Nat
  | [] => 0
  | d :: r => uptoBulk d + uptoBulkAll r
def uptoBulkEntries {H : Type} : List (Lit × DataW H) → Nat
  | [] => 0
  | x :: r => uptoBulkEntry x + uptoBulkEntries r
def uptoBulkEntry {H : Type} : Lit × DataW H → Nat
  | (.string bytes, d) => bytes.length + uptoBulk d + 1
  | (_, d) => uptoBulk d + 1
 end
def uptoSmall : (H : Type) → List (DataW H) → Bool := fun _ ds => decide (uptoBulkAll ds ≤ 1048576)
def OpenSpec.upto (s : _root_.Go.ChangeSpec) : _root_.Go.OpenSpec := { _root_.Go.OpenSpec.ofChange s with cond := some uptoSmall }

/-- 'laws.FnExactScopeOf', WHERE WHAT IT READS IS OF BULK AT MOST 1048576: true; the input reads as it did. -/
def fnExactScopeOfUptoRow : OpenClaim := { program := "ytjjhknklnclokaagreat", sum := "ace5a77b16878cd37217c436be3ffb3481a02bfc56a9a1a4c9f185bbb62a03fe", func := "loop.example/g00290/laws.FnExactScopeOf", spec := "fnExactScopeOf", unfollowed := true, recurses := true, apart := false, narrowed := true }
def FnExactScopeOfUptoSaid : Prop := fnExactScopeOfUptoRow.holds Tryz.pinned (OpenSpec.upto fnExactScopeOfSpec)

/-- 'laws.FnExactGranted', WHERE WHAT IT READS IS OF BULK AT MOST 1048576: true; the input reads as it did. -/
def fnExactGrantedUptoRow : OpenClaim := { program := "ytjjhknklnclokaagreat", sum := "ace5a77b16878cd37217c436be3ffb3481a02bfc56a9a1a4c9f185bbb62a03fe", func := "loop.example/g00290/laws.FnExactGranted", spec := "fnExactGranted", unfollowed := true, recurses := true, apart := false, narrowed := true }
def FnExactGrantedUptoSaid : Prop := fnExactGrantedUptoRow.holds Tryz.pinned (OpenSpec.upto fnExactGrantedSpec)

/-- 'laws.FnExactStepThread', WHERE WHAT IT READS IS OF BULK AT MOST 1048576: true; the input reads as it did. -/
def fnExactStepThreadUptoRow : OpenClaim := { program := "ytjjhknklnclokaagreat", sum := "ace5a77b16878cd37217c436be3ffb3481a02bfc56a9a1a4c9f185bbb62a03fe", func := "loop.example/g00290/laws.FnExactStepThread", spec := "fnExactStepThread", unfollowed := true, recurses := true, apart := false, narrowed := true }
def FnExactStepThreadUptoSaid : Prop := fnExactStepThreadUptoRow.holds Tryz.pinned (OpenSpec.upto fnExactStepThreadSpec)

/-- 'laws.FnExactRunThread', WHERE WHAT IT READS IS OF BULK AT MOST 1048576: true; the input reads as it did. -/
def fnExactRunThreadUptoRow : OpenClaim := { program := "ytjjhknklnclokaagreat", sum := "ace5a77b16878cd37217c436be3ffb3481a02bfc56a9a1a4c9f185bbb62a03fe", func := "loop.example/g00290/laws.FnExactRunThread", spec := "fnExactRunThread", unfollowed := true, recurses := true, apart := false, narrowed := true }
def FnExactRunThreadUptoSaid : Prop := fnExactRunThreadUptoRow.holds Tryz.pinned (OpenSpec.upto fnExactRunThreadSpec)

end Rows
end Go.Proofs.YtjjhknklnclokaaGreat
