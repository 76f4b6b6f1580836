/- The law FnExactStepThread of the reference and the program holds: at every input it answers true, and each argument reads as it did. Its pure statement is proved in the text PureFnExactStepThread. No condition beyond the row's. -/
import Derived.Test.YtjjhknklnclokaaGreatRows
import Derived.Test.YtjjhknklnclokaaGreatLkFnExactStepThread
import Derived.Test.YtjjhknklnclokaaGreatPureFnExactStepThread
import Derived.WalkKit
import Derived.ProofKit
import Derived.OpenShut
import Derived.ShutString
import Derived.ChangeOld
import Derived.Below
import Derived.SizedLaws
import Derived.Carry
namespace Go.Proofs.YtjjhknklnclokaaGreat.fnExactStepThread
open Go.ChangeShapes Go.WideShapes Go.ChangeAt Go.RowKit
open Go.ChangeMaps (open_string shut_string)
open Go.Proofs.YtjjhknklnclokaaGreat.Opn Go.Proofs.YtjjhknklnclokaaGreat.OpnFnExactStepThread Go.Proofs.YtjjhknklnclokaaGreat.PFnExactStepThread Go.Proofs.YtjjhknklnclokaaGreat.Abs
set_option linter.unusedVariables false
theorem opn99 {H : Type} {enc : TypeId × Value → H} {w : World} : OpnC enc Tryz.prog w 99 6 e99 G99 := by
  have h := opnC_struct (enc := enc) (w := w) (fun x : S99 => (x.f0, x.f1, x.f2, x.f3, x.f4, x.f5)) (fun y => (⟨y.1, y.2.1, y.2.2.1, y.2.2.2.1, y.2.2.2.2.1, y.2.2.2.2.2⟩ : S99)) (fun _ => rfl) Tryz.underlying99 (by kernel_rfl) (opnG_cons rfl (opnC_int Tryz.underlying3 (by kernel_rfl)) (opnG_cons rfl (opnC_int Tryz.underlying3 (by kernel_rfl)) (opnG_cons rfl (opnC_str Tryz.underlying9 (by kernel_rfl)) (opnG_cons rfl (opnC_str Tryz.underlying9 (by kernel_rfl)) (opnG_cons rfl (opnC_str Tryz.underlying9 (by kernel_rfl)) (opnG_one rfl (opnC_slice Tryz.underlying38 (by kernel_rfl) (opnC_int Tryz.underlying3 (by kernel_rfl)))))))))
  exact h
theorem opn171 {H : Type} {enc : TypeId × Value → H} {w : World} : OpnC enc Tryz.prog w 171 3 e171 G171 := by
  have h := opnC_struct (enc := enc) (w := w) (fun x : S171 => (x.f0, x.f1, x.f2)) (fun y => (⟨y.1, y.2.1, y.2.2⟩ : S171)) (fun _ => rfl) Tryz.underlying171 (by kernel_rfl) (opnG_cons rfl (opnC_str Tryz.underlying9 (by kernel_rfl)) (opnG_cons rfl (opnC_str Tryz.underlying9 (by kernel_rfl)) (opnG_one rfl (opnC_int Tryz.underlying3 (by kernel_rfl)))))
  exact h
theorem opn103 {H : Type} {enc : TypeId × Value → H} {w : World} : OpnC enc Tryz.prog w 103 4 e103 G103 := by
  have h := opnC_struct (enc := enc) (w := w) (fun x : S103 => (x.f0, x.f1, x.f2, x.f3)) (fun y => (⟨y.1, y.2.1, y.2.2.1, y.2.2.2⟩ : S103)) (fun _ => rfl) Tryz.underlying103 (by kernel_rfl) (opnG_cons rfl (opnC_str Tryz.underlying9 (by kernel_rfl)) (opnG_cons rfl (opnC_slice Tryz.underlying39 (by kernel_rfl) (opnC_str Tryz.underlying9 (by kernel_rfl))) (opnG_cons rfl (opnC_slice Tryz.underlying39 (by kernel_rfl) (opnC_str Tryz.underlying9 (by kernel_rfl))) (opnG_one rfl (opnC_slice Tryz.underlying101 (by kernel_rfl) opn171)))))
  exact h
theorem opn106 {H : Type} {enc : TypeId × Value → H} {w : World} : OpnC enc Tryz.prog w 106 4 e106 G106 := by
  have h := opnC_struct (enc := enc) (w := w) (fun x : S106 => (x.f0, x.f1, x.f2, x.f3)) (fun y => (⟨y.1, y.2.1, y.2.2.1, y.2.2.2⟩ : S106)) (fun _ => rfl) Tryz.underlying106 (by kernel_rfl) (opnG_cons rfl (opnC_str Tryz.underlying9 (by kernel_rfl)) (opnG_cons rfl (opnC_slice Tryz.underlying39 (by kernel_rfl) (opnC_str Tryz.underlying9 (by kernel_rfl))) (opnG_cons rfl (opnC_slice Tryz.underlying39 (by kernel_rfl) (opnC_str Tryz.underlying9 (by kernel_rfl))) (opnG_one rfl (opnC_int Tryz.underlying3 (by kernel_rfl))))))
  exact h
def e26 (x : S26) : List Cell := [.sl none 6 (List.flatMap e99 x.f0), .sl none 4 (List.flatMap e103 x.f1), .sl none 4 (List.flatMap e106 x.f2)]
theorem opn26 {H : Type} {enc : TypeId × Value → H} {w : World} : OpnC enc Tryz.prog w 26 3 e26 G26 := by
  have h := opnC_struct (enc := enc) (w := w) (fun x : S26 => (x.f0, x.f1, x.f2)) (fun y => (⟨y.1, y.2.1, y.2.2⟩ : S26)) (fun _ => rfl) Tryz.underlying26 (by kernel_rfl) (opnG_cons rfl (opnC_slice Tryz.underlying22 (by kernel_rfl) opn99) (opnG_cons rfl (opnC_slice Tryz.underlying23 (by kernel_rfl) opn103) (opnG_one rfl (opnC_slice Tryz.underlying24 (by kernel_rfl) opn106))))
  exact h
def e41 (x : S41) : List Cell := [.sl none 1 (List.flatMap eS x.f0), .sl none 1 (List.flatMap eI x.f1)]
theorem opn41 {H : Type} {enc : TypeId × Value → H} {w : World} : OpnC enc Tryz.prog w 41 2 e41 G41 := by
  have h := opnC_struct (enc := enc) (w := w) (fun x : S41 => (x.f0, x.f1)) (fun y => (⟨y.1, y.2⟩ : S41)) (fun _ => rfl) Tryz.underlying41 (by kernel_rfl) (opnG_cons rfl (opnC_slice Tryz.underlying39 (by kernel_rfl) (opnC_str Tryz.underlying9 (by kernel_rfl))) (opnG_one rfl (opnC_slice Tryz.underlying38 (by kernel_rfl) (opnC_int Tryz.underlying3 (by kernel_rfl)))))
  exact h
def e43 (x : S43) : List Cell := [.sl none 1 (List.flatMap eI x.f0)] ++ e41 x.f1 ++ [.sc (.int .i64 x.f2)]
theorem opn43 {H : Type} {enc : TypeId × Value → H} {w : World} : OpnC enc Tryz.prog w 43 4 e43 G43 := by
  have h := opnC_struct (enc := enc) (w := w) (fun x : S43 => (x.f0, x.f1, x.f2)) (fun y => (⟨y.1, y.2.1, y.2.2⟩ : S43)) (fun _ => rfl) Tryz.underlying43 (by kernel_rfl) (opnG_cons rfl (opnC_slice Tryz.underlying38 (by kernel_rfl) (opnC_int Tryz.underlying3 (by kernel_rfl))) (opnG_cons rfl opn41 (opnG_one rfl (opnC_int Tryz.underlying3 (by kernel_rfl)))))
  exact h
theorem own : ownKnob Tryz.prog.godebug = none := by kernel_rfl
theorem laidOut : laidOutB Tryz.prog = true := by kernel_rfl
set_option maxRecDepth 100000 in
theorem lifted (os : Os) (started : os.Started) (H : Type) (enc : TypeId × Value → H) :
    ReturnsInHanded {} Tryz.checked os 5 .any (Rows.fnExactStepThreadSpec.pre6 enc Tryz.prog Tryz.f5 Rows.fnExactStepThreadRow.domain false) (Rows.fnExactStepThreadSpec.post enc Tryz.prog Tryz.f5 false true false false) := by
  refine returnsInHanded_of_change_sized (C := Tryz.checked) own started (by kernel_rfl) Tryz.func5
    (ChangeSpec.witness6 (enc := enc) (C := Tryz.checked) false ⟨#[], #[.agg #[.slice none 0 0, .slice none 0 0, .slice none 0 0], .agg #[.slice none 0 0, .slice none 0 0, .slice none 0 0, .int .i64 0]], []⟩ 8 (by kernel_rfl) (by kernel_rfl) (by kernel_rfl) (by kernel_rfl)) ?_
  intro W base args ds gs before hval0 hW hcnd hsz0 _
  have hsz : (DataW.weightsEach Tryz.prog (Tryz.f5.params.toList ++ Rows.fnExactStepThreadSpec.plain.varTypes Tryz.prog) (ds ++ gs)).all (· ≤ reachBytes) = true := hsz0
  have hval : ∀ (j : Nat) t v, Tryz.f5.params[j]? = some t → args[j]? = some v → Value.okWide Tryz.prog W .any base t v := hval0
  have hW' := hW
  obtain ⟨p, q, hA0, hV, rfl, hfz, hnd⟩ := hW
  have hA : DataW.TrodAll enc Tryz.prog W 0 (fun _ => true) true Tryz.f5.params.toList args.toList ds p := hA0
  rw [Tryz.params5] at hA hval hsz
  obtain ⟨v0, vs0, d0, ds0, p0, q0, hargs, rfl, rfl, h0, r0⟩ := trodAll_cons hA
  obtain ⟨v1, vs1, d1, ds1, p1, q1, rfl, rfl, rfl, h1, r1⟩ := trodAll_cons r0
  obtain ⟨rfl, rfl, rfl⟩ := trodAll_nil r1
  obtain rfl : args = #[v0, v1] := by cases args; simp_all
  obtain ⟨rfl, rfl⟩ := trodVars_none hV
  have k0 := h0
  have lt0 : ∀ x ∈ p0, x.block < W.heap.size := by obtain ⟨m, hm⟩ := k0; exact DataW.trod_lt m _ _ _ hm
  obtain ⟨x0, hr0, g0⟩ := topC_struct Tryz.underlying26 opn26 (hval 0 26 v0 rfl rfl) h0
  obtain ⟨g0_0, g0_1, g0_2⟩ := g0
  have k1 := h1
  have lt1 : ∀ x ∈ p1, x.block < W.heap.size := by obtain ⟨m, hm⟩ := k1; exact DataW.trod_lt m _ _ _ hm
  obtain ⟨x1, hr1, g1⟩ := topC_struct Tryz.underlying43 opn43 (hval 1 43 v1 rfl rfl) h1
  obtain ⟨g1_0, g1_1, g1_2⟩ := g1
  obtain ⟨g1_1_0, g1_1_1⟩ := g1_1
  clear hA0 hval0 hsz0 hsz
  obtain ⟨k, hk⟩ := Pure.FnExactStepThread x0.f0 x0.f1 x0.f2 x1.f0 x1.f1.f0 x1.f1.f1 x1.f2 g0_0 g0_1 g0_2 g1_0 g1_1_0 g1_1_1 g1_2
  refine Calls.mono ((laws_FnExactStepThread.link hk).law (asC_cons hr0 (asC_cons hr1 asC_nil))) fun e W' he => ?_
  obtain ⟨rfl, bel⟩ := he
  exact ⟨_, rfl, _, _, _, [], _, [], hW', trodAll_mk1 (shut_bool Tryz.underlying4 _), (trodAll_cons_mk (Below.trod laidOut (by kernel_rfl) (of_decide_eq_true (by kernel_rfl)) k0 bel lt0) (trodAll_cons_mk (Below.trod laidOut (by kernel_rfl) (of_decide_eq_true (by kernel_rfl)) k1 bel lt1) trodAll_mk0)), rfl, bel.frame _, fun h => by cases h⟩
theorem over : Rows.fnExactStepThreadRow.holds Tryz.pinned (OpenSpec.ofChange Rows.fnExactStepThreadSpec) :=
  OpenClaim.holds_of_wide 5 Tryz.f5 rfl rfl rfl rfl rfl rfl rfl ⟨rfl, rfl, rfl, rfl, rfl⟩ rfl rfl rfl rfl rfl (by kernel_rfl) Tryz.func5 (by kernel_rfl)
    (of_decide_eq_true (by kernel_rfl)) (by unfold Func.isWrapper; first | (rw [if_pos (by decide +kernel)]; kernel_rfl) | (rw [if_neg (by decide +kernel)]; exact ⟨rfl, rfl⟩))
    (fun os started H enc _ => lifted os started H enc)
theorem proved : Rows.FnExactStepThreadSaid := over
#print axioms proved
end Go.Proofs.YtjjhknklnclokaaGreat.fnExactStepThread
namespace Go.Proofs.YtjjhknklnclokaaGreat
/-- The row, under a short name, for the claim. -/
theorem fnExactStepThread_holds : Rows.FnExactStepThreadSaid := fnExactStepThread.proved
end Go.Proofs.YtjjhknklnclokaaGreat
