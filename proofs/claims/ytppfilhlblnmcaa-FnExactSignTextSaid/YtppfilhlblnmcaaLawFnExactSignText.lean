/- The law FnExactSignText of the reference and the program holds: at every input it answers true, and each argument reads as it did. Its pure statement is proved in the text PureFnExactSignText. No condition beyond the row's. -/
import Derived.Test.YtppfilhlblnmcaaRows
import Derived.Test.YtppfilhlblnmcaaLkFnExactSignText
import Derived.Test.YtppfilhlblnmcaaPureFnExactSignText
import Derived.WalkKit
import Derived.ProofKit
import Derived.OpenShut
import Derived.ShutString
import Derived.ChangeOld
import Derived.Below
import Derived.SizedLaws
import Derived.Carry
namespace Go.Proofs.Ytppfilhlblnmcaa.fnExactSignText
open Go.ChangeShapes Go.WideShapes Go.ChangeAt Go.RowKit
open Go.ChangeMaps (open_string shut_string)
open Go.Proofs.Ytppfilhlblnmcaa.Opn Go.Proofs.Ytppfilhlblnmcaa.OpnFnExactSignText Go.Proofs.Ytppfilhlblnmcaa.PFnExactSignText Go.Proofs.Ytppfilhlblnmcaa.Abs
set_option linter.unusedVariables false
theorem opn56 {H : Type} {enc : TypeId × Value → H} {w : World} : OpnC enc Try.prog w 56 4 e56 G56 := by
  have h := opnC_struct (enc := enc) (w := w) (fun x : S56 => (x.f0, x.f1, x.f2, x.f3)) (fun y => (⟨y.1, y.2.1, y.2.2.1, y.2.2.2⟩ : S56)) (fun _ => rfl) Try.underlying56 (by kernel_rfl) (opnG_cons rfl (opnC_int Try.underlying3 (by kernel_rfl)) (opnG_cons rfl (opnC_str Try.underlying9 (by kernel_rfl)) (opnG_cons rfl (opnC_int Try.underlying3 (by kernel_rfl)) (opnG_one rfl (opnC_int Try.underlying3 (by kernel_rfl))))))
  exact h
theorem own : ownKnob Try.prog.godebug = none := by kernel_rfl
theorem laidOut : laidOutB Try.prog = true := by kernel_rfl
set_option maxRecDepth 100000 in
theorem lifted (os : Os) (started : os.Started) (H : Type) (enc : TypeId × Value → H) :
    ReturnsInHanded {} Try.checked os 4 .any (Rows.fnExactSignTextSpec.pre6 enc Try.prog Try.f4 Rows.fnExactSignTextRow.domain false) (Rows.fnExactSignTextSpec.post enc Try.prog Try.f4 false true false false) := by
  refine returnsInHanded_of_change_sized (C := Try.checked) own started (by kernel_rfl) Try.func4
    (ChangeSpec.witness6 (enc := enc) (C := Try.checked) false ⟨#[], #[.slice none 0 0], []⟩ 8 (by kernel_rfl) (by kernel_rfl) (by kernel_rfl) (by kernel_rfl)) ?_
  intro W base args ds gs before hval0 hW hcnd hsz0 _
  have hsz : (DataW.weightsEach Try.prog (Try.f4.params.toList ++ Rows.fnExactSignTextSpec.plain.varTypes Try.prog) (ds ++ gs)).all (· ≤ reachBytes) = true := hsz0
  have hval : ∀ (j : Nat) t v, Try.f4.params[j]? = some t → args[j]? = some v → Value.okWide Try.prog W .any base t v := hval0
  have hW' := hW
  obtain ⟨p, q, hA0, hV, rfl, hfz, hnd⟩ := hW
  have hA : DataW.TrodAll enc Try.prog W 0 (fun _ => true) true Try.f4.params.toList args.toList ds p := hA0
  rw [Try.params4] at hA hval hsz
  obtain ⟨v0, vs0, d0, ds0, p0, q0, hargs, rfl, rfl, h0, r0⟩ := trodAll_cons hA
  obtain ⟨rfl, rfl, rfl⟩ := trodAll_nil r0
  obtain rfl : args = #[v0] := by cases args; simp_all
  obtain ⟨rfl, rfl⟩ := trodVars_none hV
  have k0 := h0
  have lt0 : ∀ x ∈ p0, x.block < W.heap.size := by obtain ⟨m, hm⟩ := k0; exact DataW.trod_lt m _ _ _ hm
  obtain ⟨l0, hr0, g0⟩ := topC_slice Try.underlying28 (opnC_slice Try.underlying28 (by kernel_rfl) opn56) (hval 0 28 v0 rfl rfl) h0
  clear hA0 hval0 hsz0 hsz
  obtain ⟨k, hk⟩ := Pure.FnExactSignText l0 g0
  refine Calls.mono ((laws_FnExactSignText.link hk).law (asC_cons hr0 asC_nil)) fun e W' he => ?_
  obtain ⟨rfl, bel⟩ := he
  exact ⟨_, rfl, _, _, _, [], _, [], hW', trodAll_mk1 (shut_bool Try.underlying4 _), (trodAll_cons_mk (Below.trod laidOut (by kernel_rfl) (of_decide_eq_true (by kernel_rfl)) k0 bel lt0) trodAll_mk0), rfl, bel.frame _, fun h => by cases h⟩
theorem over : Rows.fnExactSignTextRow.holds Try.pinned (OpenSpec.ofChange Rows.fnExactSignTextSpec) :=
  OpenClaim.holds_of_wide 4 Try.f4 rfl rfl rfl rfl rfl rfl rfl ⟨rfl, rfl, rfl, rfl, rfl⟩ rfl rfl rfl rfl rfl (by kernel_rfl) Try.func4 (by kernel_rfl)
    (of_decide_eq_true (by kernel_rfl)) (by unfold Func.isWrapper; first | (rw [if_pos (by decide +kernel)]; kernel_rfl) | (rw [if_neg (by decide +kernel)]; exact ⟨rfl, rfl⟩))
    (fun os started H enc _ => lifted os started H enc)
theorem proved : Rows.FnExactSignTextSaid := over
#print axioms proved
end Go.Proofs.Ytppfilhlblnmcaa.fnExactSignText
namespace Go.Proofs.Ytppfilhlblnmcaa
/-- The row, under a short name, for the claim. -/
theorem fnExactSignText_holds : Rows.FnExactSignTextSaid := fnExactSignText.proved
end Go.Proofs.Ytppfilhlblnmcaa
