/- The law FnExactThreadNew of the reference and the program holds: at every input it answers true, and each argument reads as it did. Its pure statement is proved in the text PureFnExactThreadNew. No condition beyond the row's. -/
import Derived.Test.YtmbkcbgbienjoaaRows
import Derived.Test.YtmbkcbgbienjoaaLkFnExactThreadNew
import Derived.Test.YtmbkcbgbienjoaaPureFnExactThreadNew
import Derived.WalkKit
import Derived.ProofKit
import Derived.OpenShut
import Derived.ShutString
import Derived.ChangeOld
import Derived.Below
import Derived.SizedLaws
import Derived.Carry
namespace Go.Proofs.Ytmbkcbgbienjoaa.fnExactThreadNew
open Go.ChangeShapes Go.WideShapes Go.ChangeAt Go.RowKit
open Go.ChangeMaps (open_string shut_string)
open Go.Proofs.Ytmbkcbgbienjoaa.Opn Go.Proofs.Ytmbkcbgbienjoaa.OpnFnExactThreadNew Go.Proofs.Ytmbkcbgbienjoaa.PFnExactThreadNew Go.Proofs.Ytmbkcbgbienjoaa.Abs
set_option linter.unusedVariables false
theorem opn113 {H : Type} {enc : TypeId × Value → H} {w : World} : OpnC enc Try.prog w 113 6 e113 G113 := by
  have h := opnC_struct (enc := enc) (w := w) (fun x : S113 => (x.f0, x.f1, x.f2, x.f3, x.f4, x.f5)) (fun y => (⟨y.1, y.2.1, y.2.2.1, y.2.2.2.1, y.2.2.2.2.1, y.2.2.2.2.2⟩ : S113)) (fun _ => rfl) Try.underlying113 (by kernel_rfl) (opnG_cons rfl (opnC_int Try.underlying3 (by kernel_rfl)) (opnG_cons rfl (opnC_int Try.underlying3 (by kernel_rfl)) (opnG_cons rfl (opnC_str Try.underlying9 (by kernel_rfl)) (opnG_cons rfl (opnC_str Try.underlying9 (by kernel_rfl)) (opnG_cons rfl (opnC_str Try.underlying9 (by kernel_rfl)) (opnG_one rfl (opnC_slice Try.underlying27 (by kernel_rfl) (opnC_int Try.underlying3 (by kernel_rfl)))))))))
  exact h
theorem opn143 {H : Type} {enc : TypeId × Value → H} {w : World} : OpnC enc Try.prog w 143 3 e143 G143 := by
  have h := opnC_struct (enc := enc) (w := w) (fun x : S143 => (x.f0, x.f1, x.f2)) (fun y => (⟨y.1, y.2.1, y.2.2⟩ : S143)) (fun _ => rfl) Try.underlying143 (by kernel_rfl) (opnG_cons rfl (opnC_str Try.underlying9 (by kernel_rfl)) (opnG_cons rfl (opnC_str Try.underlying9 (by kernel_rfl)) (opnG_one rfl (opnC_int Try.underlying3 (by kernel_rfl)))))
  exact h
theorem opn117 {H : Type} {enc : TypeId × Value → H} {w : World} : OpnC enc Try.prog w 117 4 e117 G117 := by
  have h := opnC_struct (enc := enc) (w := w) (fun x : S117 => (x.f0, x.f1, x.f2, x.f3)) (fun y => (⟨y.1, y.2.1, y.2.2.1, y.2.2.2⟩ : S117)) (fun _ => rfl) Try.underlying117 (by kernel_rfl) (opnG_cons rfl (opnC_str Try.underlying9 (by kernel_rfl)) (opnG_cons rfl (opnC_slice Try.underlying28 (by kernel_rfl) (opnC_str Try.underlying9 (by kernel_rfl))) (opnG_cons rfl (opnC_slice Try.underlying28 (by kernel_rfl) (opnC_str Try.underlying9 (by kernel_rfl))) (opnG_one rfl (opnC_slice Try.underlying115 (by kernel_rfl) opn143)))))
  exact h
theorem opn119 {H : Type} {enc : TypeId × Value → H} {w : World} : OpnC enc Try.prog w 119 4 e119 G119 := by
  have h := opnC_struct (enc := enc) (w := w) (fun x : S119 => (x.f0, x.f1, x.f2, x.f3)) (fun y => (⟨y.1, y.2.1, y.2.2.1, y.2.2.2⟩ : S119)) (fun _ => rfl) Try.underlying119 (by kernel_rfl) (opnG_cons rfl (opnC_str Try.underlying9 (by kernel_rfl)) (opnG_cons rfl (opnC_slice Try.underlying28 (by kernel_rfl) (opnC_str Try.underlying9 (by kernel_rfl))) (opnG_cons rfl (opnC_slice Try.underlying28 (by kernel_rfl) (opnC_str Try.underlying9 (by kernel_rfl))) (opnG_one rfl (opnC_int Try.underlying3 (by kernel_rfl))))))
  exact h
def e26 (x : S26) : List Cell := [.sl none 6 (List.flatMap e113 x.f0), .sl none 4 (List.flatMap e117 x.f1), .sl none 4 (List.flatMap e119 x.f2)]
theorem opn26 {H : Type} {enc : TypeId × Value → H} {w : World} : OpnC enc Try.prog w 26 3 e26 G26 := by
  have h := opnC_struct (enc := enc) (w := w) (fun x : S26 => (x.f0, x.f1, x.f2)) (fun y => (⟨y.1, y.2.1, y.2.2⟩ : S26)) (fun _ => rfl) Try.underlying26 (by kernel_rfl) (opnG_cons rfl (opnC_slice Try.underlying22 (by kernel_rfl) opn113) (opnG_cons rfl (opnC_slice Try.underlying23 (by kernel_rfl) opn117) (opnG_one rfl (opnC_slice Try.underlying24 (by kernel_rfl) opn119))))
  exact h
theorem own : ownKnob Try.prog.godebug = none := by kernel_rfl
theorem laidOut : laidOutB Try.prog = true := by kernel_rfl
set_option maxRecDepth 100000 in
theorem lifted (os : Os) (started : os.Started) (H : Type) (enc : TypeId × Value → H) :
    ReturnsInHanded {} Try.checked os 5 .any (Rows.fnExactThreadNewSpec.pre6 enc Try.prog Try.f5 Rows.fnExactThreadNewRow.domain false) (Rows.fnExactThreadNewSpec.post enc Try.prog Try.f5 false true false false) := by
  refine returnsInHanded_of_change_sized (C := Try.checked) own started (by kernel_rfl) Try.func5
    (ChangeSpec.witness6 (enc := enc) (C := Try.checked) false ⟨#[], #[.agg #[.slice none 0 0, .slice none 0 0, .slice none 0 0], .int .i64 0, .slice none 0 0], []⟩ 8 (by kernel_rfl) (by kernel_rfl) (by kernel_rfl) (by kernel_rfl)) ?_
  intro W base args ds gs before hval0 hW hcnd hsz0 _
  have hsz : (DataW.weightsEach Try.prog (Try.f5.params.toList ++ Rows.fnExactThreadNewSpec.plain.varTypes Try.prog) (ds ++ gs)).all (· ≤ reachBytes) = true := hsz0
  have hval : ∀ (j : Nat) t v, Try.f5.params[j]? = some t → args[j]? = some v → Value.okWide Try.prog W .any base t v := hval0
  have hW' := hW
  obtain ⟨p, q, hA0, hV, rfl, hfz, hnd⟩ := hW
  have hA : DataW.TrodAll enc Try.prog W 0 (fun _ => true) true Try.f5.params.toList args.toList ds p := hA0
  rw [Try.params5] at hA hval hsz
  obtain ⟨v0, vs0, d0, ds0, p0, q0, hargs, rfl, rfl, h0, r0⟩ := trodAll_cons hA
  obtain ⟨v1, vs1, d1, ds1, p1, q1, rfl, rfl, rfl, h1, r1⟩ := trodAll_cons r0
  obtain ⟨v2, vs2, d2, ds2, p2, q2, rfl, rfl, rfl, h2, r2⟩ := trodAll_cons r1
  obtain ⟨rfl, rfl, rfl⟩ := trodAll_nil r2
  obtain rfl : args = #[v0, v1, v2] := by cases args; simp_all
  obtain ⟨rfl, rfl⟩ := trodVars_none hV
  have k0 := h0
  have lt0 : ∀ x ∈ p0, x.block < W.heap.size := by obtain ⟨m, hm⟩ := k0; exact DataW.trod_lt m _ _ _ hm
  obtain ⟨x0, hr0, g0⟩ := topC_struct Try.underlying26 opn26 (hval 0 26 v0 rfl rfl) h0
  obtain ⟨g0_0, g0_1, g0_2⟩ := g0
  obtain ⟨a1, rfl, rfl, rfl, w1⟩ := open_int Try.underlying3 (hval 1 3 v1 rfl rfl) h1
  have k2 := h2
  have lt2 : ∀ x ∈ p2, x.block < W.heap.size := by obtain ⟨m, hm⟩ := k2; exact DataW.trod_lt m _ _ _ hm
  obtain ⟨l2, hr2, g2⟩ := topC_slice Try.underlying28 (opnC_slice Try.underlying28 (by kernel_rfl) (opnC_str Try.underlying9 (by kernel_rfl))) (hval 2 28 v2 rfl rfl) h2
  clear hA0 hval0 hsz0 hsz
  obtain ⟨k, hk⟩ := Pure.FnExactThreadNew x0.f0 x0.f1 x0.f2 a1 l2 g0_0 g0_1 g0_2 w1 g2
  refine Calls.mono ((laws_FnExactThreadNew.link hk).law (asC_cons hr0 (asC_cons (topC_sc rfl) (asC_cons hr2 asC_nil)))) fun e W' he => ?_
  obtain ⟨rfl, bel⟩ := he
  exact ⟨_, rfl, _, _, _, [], _, [], hW', trodAll_mk1 (shut_bool Try.underlying4 _), (trodAll_cons_mk (Below.trod laidOut (by kernel_rfl) (of_decide_eq_true (by kernel_rfl)) k0 bel lt0) (trodAll_cons_mk (shut_int Try.underlying3 w1) (trodAll_cons_mk (Below.trod laidOut (by kernel_rfl) (of_decide_eq_true (by kernel_rfl)) k2 bel lt2) trodAll_mk0))), rfl, bel.frame _, fun h => by cases h⟩
theorem over : Rows.fnExactThreadNewRow.holds Try.pinned (OpenSpec.ofChange Rows.fnExactThreadNewSpec) :=
  OpenClaim.holds_of_wide 5 Try.f5 rfl rfl rfl rfl rfl rfl rfl ⟨rfl, rfl, rfl, rfl, rfl⟩ rfl rfl rfl rfl rfl (by kernel_rfl) Try.func5 (by kernel_rfl)
    (of_decide_eq_true (by kernel_rfl)) (by unfold Func.isWrapper; first | (rw [if_pos (by decide +kernel)]; kernel_rfl) | (rw [if_neg (by decide +kernel)]; exact ⟨rfl, rfl⟩))
    (fun os started H enc _ => lifted os started H enc)
theorem proved : Rows.FnExactThreadNewSaid := over
#print axioms proved
end Go.Proofs.Ytmbkcbgbienjoaa.fnExactThreadNew
namespace Go.Proofs.Ytmbkcbgbienjoaa
/-- The row, under a short name, for the claim. -/
theorem fnExactThreadNew_holds : Rows.FnExactThreadNewSaid := fnExactThreadNew.proved
end Go.Proofs.Ytmbkcbgbienjoaa
