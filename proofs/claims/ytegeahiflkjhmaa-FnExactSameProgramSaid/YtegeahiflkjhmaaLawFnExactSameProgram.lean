/- The law FnExactSameProgram of the reference and the program holds: at every input it answers true, and each argument reads as it did. Its pure statement is proved in the text PureFnExactSameProgram. No condition beyond the row's. -/
import Derived.Test.YtegeahiflkjhmaaRows
import Derived.Test.YtegeahiflkjhmaaLkFnExactSameProgram
import Derived.Test.YtegeahiflkjhmaaPureFnExactSameProgram
import Derived.WalkKit
import Derived.ProofKit
import Derived.OpenShut
import Derived.ShutString
import Derived.ChangeOld
import Derived.Below
import Derived.SizedLaws
import Derived.Carry
namespace Go.Proofs.Ytegeahiflkjhmaa.fnExactSameProgram
open Go.ChangeShapes Go.WideShapes Go.ChangeAt Go.RowKit
open Go.ChangeMaps (open_string shut_string)
open Go.Proofs.Ytegeahiflkjhmaa.Opn Go.Proofs.Ytegeahiflkjhmaa.OpnFnExactSameProgram Go.Proofs.Ytegeahiflkjhmaa.PFnExactSameProgram Go.Proofs.Ytegeahiflkjhmaa.Abs
set_option linter.unusedVariables false
theorem opn148 {H : Type} {enc : TypeId × Value → H} {w : World} : OpnC enc Try.prog w 148 6 e148 G148 := by
  have h := opnC_struct (enc := enc) (w := w) (fun x : S148 => (x.f0, x.f1, x.f2, x.f3, x.f4, x.f5)) (fun y => (⟨y.1, y.2.1, y.2.2.1, y.2.2.2.1, y.2.2.2.2.1, y.2.2.2.2.2⟩ : S148)) (fun _ => rfl) Try.underlying148 (by kernel_rfl) (opnG_cons rfl (opnC_int Try.underlying3 (by kernel_rfl)) (opnG_cons rfl (opnC_int Try.underlying3 (by kernel_rfl)) (opnG_cons rfl (opnC_str Try.underlying9 (by kernel_rfl)) (opnG_cons rfl (opnC_str Try.underlying9 (by kernel_rfl)) (opnG_cons rfl (opnC_str Try.underlying9 (by kernel_rfl)) (opnG_one rfl (opnC_slice Try.underlying23 (by kernel_rfl) (opnC_int Try.underlying3 (by kernel_rfl)))))))))
  exact h
theorem opn163 {H : Type} {enc : TypeId × Value → H} {w : World} : OpnC enc Try.prog w 163 3 e163 G163 := by
  have h := opnC_struct (enc := enc) (w := w) (fun x : S163 => (x.f0, x.f1, x.f2)) (fun y => (⟨y.1, y.2.1, y.2.2⟩ : S163)) (fun _ => rfl) Try.underlying163 (by kernel_rfl) (opnG_cons rfl (opnC_str Try.underlying9 (by kernel_rfl)) (opnG_cons rfl (opnC_str Try.underlying9 (by kernel_rfl)) (opnG_one rfl (opnC_int Try.underlying3 (by kernel_rfl)))))
  exact h
theorem opn152 {H : Type} {enc : TypeId × Value → H} {w : World} : OpnC enc Try.prog w 152 4 e152 G152 := by
  have h := opnC_struct (enc := enc) (w := w) (fun x : S152 => (x.f0, x.f1, x.f2, x.f3)) (fun y => (⟨y.1, y.2.1, y.2.2.1, y.2.2.2⟩ : S152)) (fun _ => rfl) Try.underlying152 (by kernel_rfl) (opnG_cons rfl (opnC_str Try.underlying9 (by kernel_rfl)) (opnG_cons rfl (opnC_slice Try.underlying22 (by kernel_rfl) (opnC_str Try.underlying9 (by kernel_rfl))) (opnG_cons rfl (opnC_slice Try.underlying22 (by kernel_rfl) (opnC_str Try.underlying9 (by kernel_rfl))) (opnG_one rfl (opnC_slice Try.underlying150 (by kernel_rfl) opn163)))))
  exact h
theorem opn154 {H : Type} {enc : TypeId × Value → H} {w : World} : OpnC enc Try.prog w 154 4 e154 G154 := by
  have h := opnC_struct (enc := enc) (w := w) (fun x : S154 => (x.f0, x.f1, x.f2, x.f3)) (fun y => (⟨y.1, y.2.1, y.2.2.1, y.2.2.2⟩ : S154)) (fun _ => rfl) Try.underlying154 (by kernel_rfl) (opnG_cons rfl (opnC_str Try.underlying9 (by kernel_rfl)) (opnG_cons rfl (opnC_slice Try.underlying22 (by kernel_rfl) (opnC_str Try.underlying9 (by kernel_rfl))) (opnG_cons rfl (opnC_slice Try.underlying22 (by kernel_rfl) (opnC_str Try.underlying9 (by kernel_rfl))) (opnG_one rfl (opnC_int Try.underlying3 (by kernel_rfl))))))
  exact h
def e66 (x : S66) : List Cell := [.sl none 6 (List.flatMap e148 x.f0), .sl none 4 (List.flatMap e152 x.f1), .sl none 4 (List.flatMap e154 x.f2)]
theorem opn66 {H : Type} {enc : TypeId × Value → H} {w : World} : OpnC enc Try.prog w 66 3 e66 G66 := by
  have h := opnC_struct (enc := enc) (w := w) (fun x : S66 => (x.f0, x.f1, x.f2)) (fun y => (⟨y.1, y.2.1, y.2.2⟩ : S66)) (fun _ => rfl) Try.underlying66 (by kernel_rfl) (opnG_cons rfl (opnC_slice Try.underlying62 (by kernel_rfl) opn148) (opnG_cons rfl (opnC_slice Try.underlying63 (by kernel_rfl) opn152) (opnG_one rfl (opnC_slice Try.underlying64 (by kernel_rfl) opn154))))
  exact h
theorem own : ownKnob Try.prog.godebug = none := by kernel_rfl
theorem laidOut : laidOutB Try.prog = true := by kernel_rfl
set_option maxRecDepth 100000 in
theorem lifted (os : Os) (started : os.Started) (H : Type) (enc : TypeId × Value → H) :
    ReturnsInHanded {} Try.checked os 12 .any (Rows.fnExactSameProgramSpec.pre6 enc Try.prog Try.f12 Rows.fnExactSameProgramRow.domain false) (Rows.fnExactSameProgramSpec.post enc Try.prog Try.f12 false true false false) := by
  refine returnsInHanded_of_change_sized (C := Try.checked) own started (by kernel_rfl) Try.func12
    (ChangeSpec.witness6 (enc := enc) (C := Try.checked) false ⟨#[], #[.agg #[.slice none 0 0, .slice none 0 0, .slice none 0 0], .agg #[.slice none 0 0, .slice none 0 0, .slice none 0 0]], []⟩ 8 (by kernel_rfl) (by kernel_rfl) (by kernel_rfl) (by kernel_rfl)) ?_
  intro W base args ds gs before hval0 hW hcnd hsz0 _
  have hsz : (DataW.weightsEach Try.prog (Try.f12.params.toList ++ Rows.fnExactSameProgramSpec.plain.varTypes Try.prog) (ds ++ gs)).all (· ≤ reachBytes) = true := hsz0
  have hval : ∀ (j : Nat) t v, Try.f12.params[j]? = some t → args[j]? = some v → Value.okWide Try.prog W .any base t v := hval0
  have hW' := hW
  obtain ⟨p, q, hA0, hV, rfl, hfz, hnd⟩ := hW
  have hA : DataW.TrodAll enc Try.prog W 0 (fun _ => true) true Try.f12.params.toList args.toList ds p := hA0
  rw [Try.params12] at hA hval hsz
  obtain ⟨v0, vs0, d0, ds0, p0, q0, hargs, rfl, rfl, h0, r0⟩ := trodAll_cons hA
  obtain ⟨v1, vs1, d1, ds1, p1, q1, rfl, rfl, rfl, h1, r1⟩ := trodAll_cons r0
  obtain ⟨rfl, rfl, rfl⟩ := trodAll_nil r1
  obtain rfl : args = #[v0, v1] := by cases args; simp_all
  obtain ⟨rfl, rfl⟩ := trodVars_none hV
  have k0 := h0
  have lt0 : ∀ x ∈ p0, x.block < W.heap.size := by obtain ⟨m, hm⟩ := k0; exact DataW.trod_lt m _ _ _ hm
  obtain ⟨x0, hr0, g0⟩ := topC_struct Try.underlying66 opn66 (hval 0 66 v0 rfl rfl) h0
  obtain ⟨gg0_0, gg0_1, gg0_2⟩ := g0
  have k1 := h1
  have lt1 : ∀ x ∈ p1, x.block < W.heap.size := by obtain ⟨m, hm⟩ := k1; exact DataW.trod_lt m _ _ _ hm
  obtain ⟨x1, hr1, g1⟩ := topC_struct Try.underlying66 opn66 (hval 1 66 v1 rfl rfl) h1
  obtain ⟨gg1_0, gg1_1, gg1_2⟩ := g1
  clear hA0 hval0 hsz0 hsz
  obtain ⟨k, hk⟩ := Pure.FnExactSameProgram x0.f0 x0.f1 x0.f2 x1.f0 x1.f1 x1.f2 gg0_0 gg0_1 gg0_2 gg1_0 gg1_1 gg1_2
  refine Calls.mono ((laws_FnExactSameProgram.link k x0.f0 x0.f1 x0.f2 x1.f0 x1.f1 x1.f2 true hk).law (asC_cons hr0 (asC_cons hr1 asC_nil))) fun e W' he => ?_
  obtain ⟨rfl, bel⟩ := he
  exact ⟨_, rfl, _, _, _, [], _, [], hW', trodAll_mk1 (shut_bool Try.underlying4 _), (trodAll_cons_mk (Below.trod laidOut (by kernel_rfl) (of_decide_eq_true (by kernel_rfl)) k0 bel lt0) (trodAll_cons_mk (Below.trod laidOut (by kernel_rfl) (of_decide_eq_true (by kernel_rfl)) k1 bel lt1) trodAll_mk0)), rfl, bel.frame _, fun h => by cases h⟩
theorem over : Rows.fnExactSameProgramRow.holds Try.pinned (OpenSpec.ofChange Rows.fnExactSameProgramSpec) :=
  OpenClaim.holds_of_wide 12 Try.f12 rfl rfl rfl rfl rfl rfl rfl ⟨rfl, rfl, rfl, rfl, rfl⟩ rfl rfl rfl rfl rfl (by kernel_rfl) Try.func12 (by kernel_rfl)
    (of_decide_eq_true (by kernel_rfl)) (by unfold Func.isWrapper; first | (rw [if_pos (by decide +kernel)]; kernel_rfl) | (rw [if_neg (by decide +kernel)]; exact ⟨rfl, rfl⟩))
    (fun os started H enc _ => lifted os started H enc)
theorem proved : Rows.FnExactSameProgramSaid := over
#print axioms proved
end Go.Proofs.Ytegeahiflkjhmaa.fnExactSameProgram
namespace Go.Proofs.Ytegeahiflkjhmaa
/-- The row, under a short name, for the claim. -/
theorem fnExactSameProgram_holds : Rows.FnExactSameProgramSaid := fnExactSameProgram.proved
end Go.Proofs.Ytegeahiflkjhmaa
