/- The law FnExactValueAt of the reference and the program holds: at every input it answers true, and each argument reads as it did. Its pure statement is proved in the text PureFnExactValueAt. No condition beyond the row's. -/
import Derived.Test.YtjjhknklnclokaaRows
import Derived.Test.YtjjhknklnclokaaLkFnExactValueAt
import Derived.Test.YtjjhknklnclokaaPureFnExactValueAt
import Derived.WalkKit
import Derived.ProofKit
import Derived.OpenShut
import Derived.ShutString
import Derived.ChangeOld
import Derived.Below
import Derived.SizedLaws
import Derived.Carry
namespace Go.Proofs.Ytjjhknklnclokaa.fnExactValueAt
open Go.ChangeShapes Go.WideShapes Go.ChangeAt Go.RowKit
open Go.ChangeMaps (open_string shut_string)
open Go.Proofs.Ytjjhknklnclokaa.Opn Go.Proofs.Ytjjhknklnclokaa.OpnFnExactValueAt Go.Proofs.Ytjjhknklnclokaa.PFnExactValueAt Go.Proofs.Ytjjhknklnclokaa.Abs
set_option linter.unusedVariables false
theorem opn72 {H : Type} {enc : TypeId × Value → H} {w : World} : OpnC enc Try.prog w 72 6 e72 G72 := by
  have h := opnC_struct (enc := enc) (w := w) (fun x : S72 => (x.f0, x.f1, x.f2, x.f3, x.f4, x.f5)) (fun y => (⟨y.1, y.2.1, y.2.2.1, y.2.2.2.1, y.2.2.2.2.1, y.2.2.2.2.2⟩ : S72)) (fun _ => rfl) Try.underlying72 (by kernel_rfl) (opnG_cons rfl (opnC_int Try.underlying3 (by kernel_rfl)) (opnG_cons rfl (opnC_int Try.underlying3 (by kernel_rfl)) (opnG_cons rfl (opnC_str Try.underlying9 (by kernel_rfl)) (opnG_cons rfl (opnC_str Try.underlying9 (by kernel_rfl)) (opnG_cons rfl (opnC_str Try.underlying9 (by kernel_rfl)) (opnG_one rfl (opnC_slice Try.underlying27 (by kernel_rfl) (opnC_int Try.underlying3 (by kernel_rfl)))))))))
  exact h
theorem opn109 {H : Type} {enc : TypeId × Value → H} {w : World} : OpnC enc Try.prog w 109 3 e109 G109 := by
  have h := opnC_struct (enc := enc) (w := w) (fun x : S109 => (x.f0, x.f1, x.f2)) (fun y => (⟨y.1, y.2.1, y.2.2⟩ : S109)) (fun _ => rfl) Try.underlying109 (by kernel_rfl) (opnG_cons rfl (opnC_str Try.underlying9 (by kernel_rfl)) (opnG_cons rfl (opnC_str Try.underlying9 (by kernel_rfl)) (opnG_one rfl (opnC_int Try.underlying3 (by kernel_rfl)))))
  exact h
theorem opn76 {H : Type} {enc : TypeId × Value → H} {w : World} : OpnC enc Try.prog w 76 4 e76 G76 := by
  have h := opnC_struct (enc := enc) (w := w) (fun x : S76 => (x.f0, x.f1, x.f2, x.f3)) (fun y => (⟨y.1, y.2.1, y.2.2.1, y.2.2.2⟩ : S76)) (fun _ => rfl) Try.underlying76 (by kernel_rfl) (opnG_cons rfl (opnC_str Try.underlying9 (by kernel_rfl)) (opnG_cons rfl (opnC_slice Try.underlying28 (by kernel_rfl) (opnC_str Try.underlying9 (by kernel_rfl))) (opnG_cons rfl (opnC_slice Try.underlying28 (by kernel_rfl) (opnC_str Try.underlying9 (by kernel_rfl))) (opnG_one rfl (opnC_slice Try.underlying74 (by kernel_rfl) opn109)))))
  exact h
theorem opn79 {H : Type} {enc : TypeId × Value → H} {w : World} : OpnC enc Try.prog w 79 4 e79 G79 := by
  have h := opnC_struct (enc := enc) (w := w) (fun x : S79 => (x.f0, x.f1, x.f2, x.f3)) (fun y => (⟨y.1, y.2.1, y.2.2.1, y.2.2.2⟩ : S79)) (fun _ => rfl) Try.underlying79 (by kernel_rfl) (opnG_cons rfl (opnC_str Try.underlying9 (by kernel_rfl)) (opnG_cons rfl (opnC_slice Try.underlying28 (by kernel_rfl) (opnC_str Try.underlying9 (by kernel_rfl))) (opnG_cons rfl (opnC_slice Try.underlying28 (by kernel_rfl) (opnC_str Try.underlying9 (by kernel_rfl))) (opnG_one rfl (opnC_int Try.underlying3 (by kernel_rfl))))))
  exact h
def e26 (x : S26) : List Cell := [.sl none 6 (List.flatMap e72 x.f0), .sl none 4 (List.flatMap e76 x.f1), .sl none 4 (List.flatMap e79 x.f2)]
theorem opn26 {H : Type} {enc : TypeId × Value → H} {w : World} : OpnC enc Try.prog w 26 3 e26 G26 := by
  have h := opnC_struct (enc := enc) (w := w) (fun x : S26 => (x.f0, x.f1, x.f2)) (fun y => (⟨y.1, y.2.1, y.2.2⟩ : S26)) (fun _ => rfl) Try.underlying26 (by kernel_rfl) (opnG_cons rfl (opnC_slice Try.underlying22 (by kernel_rfl) opn72) (opnG_cons rfl (opnC_slice Try.underlying23 (by kernel_rfl) opn76) (opnG_one rfl (opnC_slice Try.underlying24 (by kernel_rfl) opn79))))
  exact h
def e30 (x : S30) : List Cell := [.sl none 1 (List.flatMap eS x.f0), .sl none 1 (List.flatMap eI x.f1)]
theorem opn30 {H : Type} {enc : TypeId × Value → H} {w : World} : OpnC enc Try.prog w 30 2 e30 G30 := by
  have h := opnC_struct (enc := enc) (w := w) (fun x : S30 => (x.f0, x.f1)) (fun y => (⟨y.1, y.2⟩ : S30)) (fun _ => rfl) Try.underlying30 (by kernel_rfl) (opnG_cons rfl (opnC_slice Try.underlying28 (by kernel_rfl) (opnC_str Try.underlying9 (by kernel_rfl))) (opnG_one rfl (opnC_slice Try.underlying27 (by kernel_rfl) (opnC_int Try.underlying3 (by kernel_rfl)))))
  exact h
def e32 (x : S32) : List Cell := [.sl none 1 (List.flatMap eI x.f0)] ++ e30 x.f1 ++ [.sc (.int .i64 x.f2)]
theorem opn32 {H : Type} {enc : TypeId × Value → H} {w : World} : OpnC enc Try.prog w 32 4 e32 G32 := by
  have h := opnC_struct (enc := enc) (w := w) (fun x : S32 => (x.f0, x.f1, x.f2)) (fun y => (⟨y.1, y.2.1, y.2.2⟩ : S32)) (fun _ => rfl) Try.underlying32 (by kernel_rfl) (opnG_cons rfl (opnC_slice Try.underlying27 (by kernel_rfl) (opnC_int Try.underlying3 (by kernel_rfl))) (opnG_cons rfl opn30 (opnG_one rfl (opnC_int Try.underlying3 (by kernel_rfl)))))
  exact h
theorem own : ownKnob Try.prog.godebug = none := by kernel_rfl
theorem laidOut : laidOutB Try.prog = true := by kernel_rfl
set_option maxRecDepth 100000 in
theorem lifted (os : Os) (started : os.Started) (H : Type) (enc : TypeId × Value → H) :
    ReturnsInHanded {} Try.checked os 3 .any (Rows.fnExactValueAtSpec.pre6 enc Try.prog Try.f3 Rows.fnExactValueAtRow.domain false) (Rows.fnExactValueAtSpec.post enc Try.prog Try.f3 false true false false) := by
  refine returnsInHanded_of_change_sized (C := Try.checked) own started (by kernel_rfl) Try.func3
    (ChangeSpec.witness6 (enc := enc) (C := Try.checked) false ⟨#[], #[.agg #[.slice none 0 0, .slice none 0 0, .slice none 0 0], .agg #[.slice none 0 0, .slice none 0 0, .slice none 0 0, .int .i64 0]], []⟩ 8 (by kernel_rfl) (by kernel_rfl) (by kernel_rfl) (by kernel_rfl)) ?_
  intro W base args ds gs before hval0 hW hcnd hsz0 _
  have hsz : (DataW.weightsEach Try.prog (Try.f3.params.toList ++ Rows.fnExactValueAtSpec.plain.varTypes Try.prog) (ds ++ gs)).all (· ≤ reachBytes) = true := hsz0
  have hval : ∀ (j : Nat) t v, Try.f3.params[j]? = some t → args[j]? = some v → Value.okWide Try.prog W .any base t v := hval0
  have hW' := hW
  obtain ⟨p, q, hA0, hV, rfl, hfz, hnd⟩ := hW
  have hA : DataW.TrodAll enc Try.prog W 0 (fun _ => true) true Try.f3.params.toList args.toList ds p := hA0
  rw [Try.params3] at hA hval hsz
  obtain ⟨v0, vs0, d0, ds0, p0, q0, hargs, rfl, rfl, h0, r0⟩ := trodAll_cons hA
  obtain ⟨v1, vs1, d1, ds1, p1, q1, rfl, rfl, rfl, h1, r1⟩ := trodAll_cons r0
  obtain ⟨rfl, rfl, rfl⟩ := trodAll_nil r1
  obtain rfl : args = #[v0, v1] := by cases args; simp_all
  obtain ⟨rfl, rfl⟩ := trodVars_none hV
  have k0 := h0
  have lt0 : ∀ x ∈ p0, x.block < W.heap.size := by obtain ⟨m, hm⟩ := k0; exact DataW.trod_lt m _ _ _ hm
  obtain ⟨x0, hr0, g0⟩ := topC_struct Try.underlying26 opn26 (hval 0 26 v0 rfl rfl) h0
  obtain ⟨g0_0, g0_1, g0_2⟩ := g0
  have k1 := h1
  have lt1 : ∀ x ∈ p1, x.block < W.heap.size := by obtain ⟨m, hm⟩ := k1; exact DataW.trod_lt m _ _ _ hm
  obtain ⟨x1, hr1, g1⟩ := topC_struct Try.underlying32 opn32 (hval 1 32 v1 rfl rfl) h1
  obtain ⟨g1_0, g1_1, g1_2⟩ := g1
  obtain ⟨g1_1_0, g1_1_1⟩ := g1_1
  clear hA0 hval0 hsz0 hsz
  obtain ⟨k, hk⟩ := Pure.FnExactValueAt x0.f0 x0.f1 x0.f2 x1.f0 x1.f1.f0 x1.f1.f1 x1.f2 g0_0 g0_1 g0_2 g1_0 g1_1_0 g1_1_1 g1_2
  refine Calls.mono ((laws_FnExactValueAt.link hk).law (asC_cons hr0 (asC_cons hr1 asC_nil))) fun e W' he => ?_
  obtain ⟨rfl, bel⟩ := he
  exact ⟨_, rfl, _, _, _, [], _, [], hW', trodAll_mk1 (shut_bool Try.underlying4 _), (trodAll_cons_mk (Below.trod laidOut (by kernel_rfl) (of_decide_eq_true (by kernel_rfl)) k0 bel lt0) (trodAll_cons_mk (Below.trod laidOut (by kernel_rfl) (of_decide_eq_true (by kernel_rfl)) k1 bel lt1) trodAll_mk0)), rfl, bel.frame _, fun h => by cases h⟩
theorem over : Rows.fnExactValueAtRow.holds Try.pinned (OpenSpec.ofChange Rows.fnExactValueAtSpec) :=
  OpenClaim.holds_of_wide 3 Try.f3 rfl rfl rfl rfl rfl rfl rfl ⟨rfl, rfl, rfl, rfl, rfl⟩ rfl rfl rfl rfl rfl (by kernel_rfl) Try.func3 (by kernel_rfl)
    (of_decide_eq_true (by kernel_rfl)) (by unfold Func.isWrapper; first | (rw [if_pos (by decide +kernel)]; kernel_rfl) | (rw [if_neg (by decide +kernel)]; exact ⟨rfl, rfl⟩))
    (fun os started H enc _ => lifted os started H enc)
theorem proved : Rows.FnExactValueAtSaid := over
#print axioms proved
end Go.Proofs.Ytjjhknklnclokaa.fnExactValueAt
namespace Go.Proofs.Ytjjhknklnclokaa
/-- The row, under a short name, for the claim. -/
theorem fnExactValueAt_holds : Rows.FnExactValueAtSaid := fnExactValueAt.proved
end Go.Proofs.Ytjjhknklnclokaa
