/- The law FnExactPast of the reference and the program holds: at every input it answers true, and each argument reads as it did. Its pure statement is proved in the text PureFnExactPast. No condition beyond the row's. -/
import Derived.Test.YtegeahiflkjhmaaRows
import Derived.Test.YtegeahiflkjhmaaOpnFnExactPast
import Derived.Test.YtegeahiflkjhmaaPureFnExactPast
import Derived.WalkKit
import Derived.ProofKit
import Derived.OpenShut
import Derived.ShutString
import Derived.ChangeOld
import Derived.Below
import Derived.SizedLaws
import Derived.Carry
namespace Go.Proofs.Ytegeahiflkjhmaa.fnExactPast
open Go.ChangeShapes Go.WideShapes Go.ChangeAt Go.RowKit
open Go.ChangeMaps (open_string shut_string)
open Go.Proofs.Ytegeahiflkjhmaa.Opn Go.Proofs.Ytegeahiflkjhmaa.OpnFnExactPast Go.Proofs.Ytegeahiflkjhmaa.PFnExactPast
set_option linter.unusedVariables false
theorem own : ownKnob Try.prog.godebug = none := by kernel_rfl
theorem laidOut : laidOutB Try.prog = true := by kernel_rfl
set_option maxRecDepth 100000 in
theorem lifted (os : Os) (started : os.Started) (H : Type) (enc : TypeId × Value → H) :
    ReturnsInHanded {} Try.checked os 6 .any (Rows.fnExactPastSpec.pre6 enc Try.prog Try.f6 Rows.fnExactPastRow.domain false) (Rows.fnExactPastSpec.post enc Try.prog Try.f6 false true false false) := by
  refine returnsInHanded_of_change_sized (C := Try.checked) own started (by kernel_rfl) Try.func6
    (ChangeSpec.witness6 (enc := enc) (C := Try.checked) false ⟨#[], #[.agg #[.slice none 0 0, .slice none 0 0, .slice none 0 0, .int .i64 0]], []⟩ 8 (by kernel_rfl) (by kernel_rfl) (by kernel_rfl) (by kernel_rfl)) ?_
  intro W base args ds gs before hval0 hW hcnd hsz0 _
  have hsz : (DataW.weightsEach Try.prog (Try.f6.params.toList ++ Rows.fnExactPastSpec.plain.varTypes Try.prog) (ds ++ gs)).all (· ≤ reachBytes) = true := hsz0
  have hval : ∀ (j : Nat) t v, Try.f6.params[j]? = some t → args[j]? = some v → Value.okWide Try.prog W .any base t v := hval0
  have hW' := hW
  obtain ⟨p, q, hA0, hV, rfl, hfz, hnd⟩ := hW
  have hA : DataW.TrodAll enc Try.prog W 0 (fun _ => true) true Try.f6.params.toList args.toList ds p := hA0
  rw [Try.params6] at hA hval hsz
  obtain ⟨v0, vs0, d0, ds0, p0, q0, hargs, rfl, rfl, h0, r0⟩ := trodAll_cons hA
  obtain ⟨rfl, rfl, rfl⟩ := trodAll_nil r0
  obtain rfl : args = #[v0] := by cases args; simp_all
  obtain ⟨rfl, rfl⟩ := trodVars_none hV
  have k0 := h0
  have lt0 : ∀ x ∈ p0, x.block < W.heap.size := by obtain ⟨m, hm⟩ := k0; exact DataW.trod_lt m _ _ _ hm
  obtain ⟨x0, cs0, rfl, hK0, g0⟩ := top_struct Try.underlying38 opn38 (hval 0 38 v0 rfl rfl) h0
  obtain ⟨A0_0, c0_0, A0_1, c0_1, A0_2, c0_2, rfl, hc0_0, hr0_0, hc0_1, hr0_1, hc0_2, hr0_2⟩ := k38_open hK0
  obtain ⟨gg0_0, ⟨gg0_1_0, gg0_1_1⟩, gg0_2⟩ := g0
  clear hA0 hval0 hsz0 hsz
  obtain ⟨k, hk⟩ := Pure.FnExactPast x0.f0 x0.f1.f0 x0.f1.f1 x0.f2 gg0_0 gg0_1_0 gg0_1_1 gg0_2
  refine (laws_FnExactPast.calls k A0_0 c0_0 x0.f0 A0_1 c0_1 x0.f1.f0 A0_2 c0_2 x0.f1.f1 x0.f2 true W hr0_0 hc0_0 hr0_1 hc0_1 hr0_2 hc0_2 ⟨rfl⟩ hk).mono fun e W' ⟨he, bel⟩ => ?_
  subst he
  exact ⟨_, rfl, _, _, _, [], _, [], hW', trodAll_mk1 (shut_bool Try.underlying4 _), (trodAll_cons_mk (Below.trod laidOut (by kernel_rfl) (of_decide_eq_true (by kernel_rfl)) k0 bel lt0) trodAll_mk0), rfl, bel.frame _, fun h => by cases h⟩
theorem over : Rows.fnExactPastRow.holds Try.pinned (OpenSpec.ofChange Rows.fnExactPastSpec) :=
  OpenClaim.holds_of_wide 6 Try.f6 rfl rfl rfl rfl rfl rfl rfl ⟨rfl, rfl, rfl, rfl, rfl⟩ rfl rfl rfl rfl rfl (by kernel_rfl) Try.func6 (by kernel_rfl)
    (of_decide_eq_true (by kernel_rfl)) (by unfold Func.isWrapper; first | (rw [if_pos (by decide +kernel)]; kernel_rfl) | (rw [if_neg (by decide +kernel)]; exact ⟨rfl, rfl⟩))
    (fun os started H enc _ => lifted os started H enc)
theorem proved : Rows.FnExactPastSaid := over
#print axioms proved
end Go.Proofs.Ytegeahiflkjhmaa.fnExactPast
namespace Go.Proofs.Ytegeahiflkjhmaa
/-- The row, under a short name, for the claim. -/
theorem fnExactPast_holds : Rows.FnExactPastSaid := fnExactPast.proved
end Go.Proofs.Ytegeahiflkjhmaa
