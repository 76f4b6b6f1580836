/- The machine side of the law FnValues: for each function that it reaches, a Lean function and its contract. Written by a program of this session's over the kit's print. No condition. -/
import Derived.Test.YtfgobagibkbocaaCmp
import Derived.Test.YtfgobagibkbocaaPFnValuesx0
import Derived.Test.YtfgobagibkbocaaPFnValuesx1
import Derived.Test.YtfgobagibkbocaaPFnValuesx2
import Derived.Test.YtfgobagibkbocaaPFnValuesx3
namespace Go.Proofs.Ytfgobagibkbocaa.PFnValues
open Go.RowKit Go.Proofs.YtfgobagibkbocaaW.PrintWords Go.Proofs.YtfgobagibkbocaaW.PrintLast Go.Proofs.YtfgobagibkbocaaW.PrintMore Go.Proofs.Ytfgobagibkbocaa.Cmp
attribute [local go_sem] max2_int min2_int max_two min_two max_three min_three max_four min_four   -- for this text's walks alone
set_option linter.unusedVariables false
set_option linter.unusedSimpArgs false

/-! ### laws_FnValues: function 13 -/
mutual
def laws_FnValues.j0 : Nat → List Int → Int → Int → Bool → Option (Bool)
 | 0, _, _, _, _ => none
 | k + 1, x0, x4, x5, x62 => if x62 = true then (some false) else ((impl_ValOk.f x4).bind fun t218 => (if t218 = true then ((impl_ValOk.f x5).bind fun t219 => (if t219 = true then (laws_FnValues.j1 k x0 x4 x5 (x5 != 0)) else (laws_FnValues.j1 k x0 x4 x5 false))) else (laws_FnValues.j1 k x0 x4 x5 false)))
def laws_FnValues.j1 : Nat → List Int → Int → Int → Bool → Option (Bool)
 | 0, _, _, _, _ => none
 | k + 1, x0, x4, x5, x72 => if x72 = true then ((impl_Calc.f k 4 x4 x5).bind fun bt220 => ((impl_Calc.f k 5 x4 x5).bind fun bt222 => (if bt220.2 = 0 then (if bt222.2 = 0 then (if (wrap64 ((wrap64 (bt220.1 * x5)) + bt222.1)) = x4 then (laws_FnValues.j2 k x0 x4) else (some false)) else (some false)) else (some false)))) else (laws_FnValues.j2 k x0 x4)
def laws_FnValues.j2 : Nat → List Int → Int → Option (Bool)
 | 0, _, _ => none
 | k + 1, x0, x4 => (spec_DrawNegated.f k x0).bind fun t224 => ((spec_DrawDenied.f k x0).bind fun t225 => ((impl_Negated.f t224).bind fun bt226 => ((spec_Negated.f t224).bind fun bt228 => (if bt226.1 = bt228.1 then (if bt226.2 = bt228.2 then ((impl_Denied.f t225).bind fun t230 => ((spec_Denied.f t225).bind fun t231 => (if t230 = t231 then ((impl_Denied.f 0).bind fun t232 => (if t232 = 1 then ((impl_ValOk.f x4).bind fun t233 => ((spec_ValOk.f x4).bind fun t234 => (some (t233 == t234)))) else (some false))) else (some false)))) else (some false)) else (some false)))))
end
def laws_FnValues.f (k : Nat) (l0 : List Int) : Option (Bool) := (laws_big.f l0).bind fun t208 => (if t208 = true then (some true) else ((spec_DrawCalc.f k l0).bind fun bt209 => ((impl_Calc.f k bt209.1 bt209.2.1 bt209.2.2).bind fun bt212 => ((spec_Calc.f k bt209.1 bt209.2.1 bt209.2.2).bind fun bt214 => (if bt212.1 = bt214.1 then (if bt212.2 = bt214.2 then (if bt212.2 = 0 then ((impl_ValOk.f bt212.1).bind fun t216 => (laws_FnValues.j0 k l0 bt209.2.1 bt209.2.2 (!t216))) else (if bt212.1 = 0 then ((impl_ValOk.f bt212.1).bind fun t217 => (laws_FnValues.j0 k l0 bt209.2.1 bt209.2.2 (!t217))) else (laws_FnValues.j0 k l0 bt209.2.1 bt209.2.2 true))) else (laws_FnValues.j0 k l0 bt209.2.1 bt209.2.2 true)) else (laws_FnValues.j0 k l0 bt209.2.1 bt209.2.2 true))))))
theorem laws_FnValues.mono_l : ∀ k, (∀ y0 y1 y2 y3, LeO (laws_FnValues.j0 k y0 y1 y2 y3) (laws_FnValues.j0 (k + 1) y0 y1 y2 y3)) ∧ (∀ y0 y1 y2 y3, LeO (laws_FnValues.j1 k y0 y1 y2 y3) (laws_FnValues.j1 (k + 1) y0 y1 y2 y3)) ∧ (∀ y0 y1, LeO (laws_FnValues.j2 k y0 y1) (laws_FnValues.j2 (k + 1) y0 y1))
 | 0 => ⟨fun _ _ _ _ r h => by simp [laws_FnValues.j0] at h, fun _ _ _ _ r h => by simp [laws_FnValues.j1] at h, fun _ _ r h => by simp [laws_FnValues.j2] at h⟩
 | k + 1 => by
  obtain ⟨ih0, ih1, ih2⟩ := laws_FnValues.mono_l k
  refine ⟨?_, ?_, ?_⟩
  ·intro y0 y1 y2 y3
   unfold laws_FnValues.j0
   repeat' first
   | (with_reducible exact ih0 _ _ _ _)
   | (with_reducible exact ih1 _ _ _ _)
   | (with_reducible exact ih2 _ _)
   | (with_reducible exact impl_Calc.mono _ _ _ _)
   | (with_reducible exact spec_Calc.mono _ _ _ _)
   | (with_reducible exact spec_DrawCalc.mono _ _)
   | (with_reducible exact spec_DrawDenied.mono _ _)
   | (with_reducible exact spec_DrawNegated.mono _ _)
   | (with_reducible exact LeO.refl _)
   | (with_reducible exact LeO.none _)
   | (with_reducible refine LeO.ite ?_ ?_)
   | (with_reducible refine LeO.bind ?_ (fun _ => ?_))
   | exact ih0 _ _ _ _
   | exact ih1 _ _ _ _
   | exact ih2 _ _
   | exact impl_Calc.mono _ _ _ _
   | exact spec_Calc.mono _ _ _ _
   | exact spec_DrawCalc.mono _ _
   | exact spec_DrawDenied.mono _ _
   | exact spec_DrawNegated.mono _ _
   | exact LeO.none _
   | refine LeO.ite ?_ ?_
   | refine LeO.bind ?_ (fun _ => ?_)
  ·intro y0 y1 y2 y3
   unfold laws_FnValues.j1
   repeat' first
   | (with_reducible exact ih0 _ _ _ _)
   | (with_reducible exact ih1 _ _ _ _)
   | (with_reducible exact ih2 _ _)
   | (with_reducible exact impl_Calc.mono _ _ _ _)
   | (with_reducible exact spec_Calc.mono _ _ _ _)
   | (with_reducible exact spec_DrawCalc.mono _ _)
   | (with_reducible exact spec_DrawDenied.mono _ _)
   | (with_reducible exact spec_DrawNegated.mono _ _)
   | (with_reducible exact LeO.refl _)
   | (with_reducible exact LeO.none _)
   | (with_reducible refine LeO.ite ?_ ?_)
   | (with_reducible refine LeO.bind ?_ (fun _ => ?_))
   | exact ih0 _ _ _ _
   | exact ih1 _ _ _ _
   | exact ih2 _ _
   | exact impl_Calc.mono _ _ _ _
   | exact spec_Calc.mono _ _ _ _
   | exact spec_DrawCalc.mono _ _
   | exact spec_DrawDenied.mono _ _
   | exact spec_DrawNegated.mono _ _
   | exact LeO.none _
   | refine LeO.ite ?_ ?_
   | refine LeO.bind ?_ (fun _ => ?_)
  ·intro y0 y1
   unfold laws_FnValues.j2
   repeat' first
   | (with_reducible exact ih0 _ _ _ _)
   | (with_reducible exact ih1 _ _ _ _)
   | (with_reducible exact ih2 _ _)
   | (with_reducible exact impl_Calc.mono _ _ _ _)
   | (with_reducible exact spec_Calc.mono _ _ _ _)
   | (with_reducible exact spec_DrawCalc.mono _ _)
   | (with_reducible exact spec_DrawDenied.mono _ _)
   | (with_reducible exact spec_DrawNegated.mono _ _)
   | (with_reducible exact LeO.refl _)
   | (with_reducible exact LeO.none _)
   | (with_reducible refine LeO.ite ?_ ?_)
   | (with_reducible refine LeO.bind ?_ (fun _ => ?_))
   | exact ih0 _ _ _ _
   | exact ih1 _ _ _ _
   | exact ih2 _ _
   | exact impl_Calc.mono _ _ _ _
   | exact spec_Calc.mono _ _ _ _
   | exact spec_DrawCalc.mono _ _
   | exact spec_DrawDenied.mono _ _
   | exact spec_DrawNegated.mono _ _
   | exact LeO.none _
   | refine LeO.ite ?_ ?_
   | refine LeO.bind ?_ (fun _ => ?_)
theorem laws_FnValues.mono : ∀ a0 k, LeO (laws_FnValues.f k a0) (laws_FnValues.f (k + 1) a0) := by
 intro a0 k
 obtain ⟨ih0, ih1, ih2⟩ := laws_FnValues.mono_l k
 unfold laws_FnValues.f
 repeat' first
   | (with_reducible exact ih0 _ _ _ _)
   | (with_reducible exact ih1 _ _ _ _)
   | (with_reducible exact ih2 _ _)
   | (with_reducible exact impl_Calc.mono _ _ _ _)
   | (with_reducible exact spec_Calc.mono _ _ _ _)
   | (with_reducible exact spec_DrawCalc.mono _ _)
   | (with_reducible exact spec_DrawDenied.mono _ _)
   | (with_reducible exact spec_DrawNegated.mono _ _)
   | (with_reducible exact LeO.refl _)
   | (with_reducible exact LeO.none _)
   | (with_reducible refine LeO.ite ?_ ?_)
   | (with_reducible refine LeO.bind ?_ (fun _ => ?_))
   | exact ih0 _ _ _ _
   | exact ih1 _ _ _ _
   | exact ih2 _ _
   | exact impl_Calc.mono _ _ _ _
   | exact spec_Calc.mono _ _ _ _
   | exact spec_DrawCalc.mono _ _
   | exact spec_DrawDenied.mono _ _
   | exact spec_DrawNegated.mono _ _
   | exact LeO.none _
   | refine LeO.ite ?_ ?_
   | refine LeO.bind ?_ (fun _ => ?_)
set_option maxHeartbeats 8000000 in
set_option maxRecDepth 100000 in
theorem laws_FnValues.calls (k : Nat) (A0 : Option Addr) (c0 : Nat) (l0 : List Int) (r : Bool) (w : World) (hr0 : Kd.C (Kd.int .u8) w A0 l0.length l0) (hc0 : l0.length ≤ c0) (hlaw_ : Aside0 (r = true)) (h : laws_FnValues.f k l0 = some r) :
  Calls Try.prog 13 #[.slice A0 l0.length c0] w fun e w' => e = .returned (.bool r) ∧ Below w.heap.size w w' := by
 have HR0 := Aside0.mk hr0
 have HC0 := Aside0.mk hc0
 clear hr0 hc0
 have HB := Aside0.mk (Below.refl w.heap.size w)
 have H : ((laws_big.f l0).bind fun t208 => (if t208 = true then (some true) else ((spec_DrawCalc.f k l0).bind fun bt209 => ((impl_Calc.f k bt209.1 bt209.2.1 bt209.2.2).bind fun bt212 => ((spec_Calc.f k bt209.1 bt209.2.1 bt209.2.2).bind fun bt214 => (if bt212.1 = bt214.1 then (if bt212.2 = bt214.2 then (if bt212.2 = 0 then ((impl_ValOk.f bt212.1).bind fun t216 => (laws_FnValues.j0 k l0 bt209.2.1 bt209.2.2 (!t216))) else (if bt212.1 = 0 then ((impl_ValOk.f bt212.1).bind fun t217 => (laws_FnValues.j0 k l0 bt209.2.1 bt209.2.2 (!t217))) else (laws_FnValues.j0 k l0 bt209.2.1 bt209.2.2 true))) else (laws_FnValues.j0 k l0 bt209.2.1 bt209.2.2 true)) else (laws_FnValues.j0 k l0 bt209.2.1 bt209.2.2 true))))))) = some r := h
 clear h
 replace H := Option.bind_eq_some_iff.mp H
 obtain ⟨t208, A20, H⟩ := H
 replace H : (if t208 = true then (some true) else ((spec_DrawCalc.f k l0).bind fun bt209 => ((impl_Calc.f k bt209.1 bt209.2.1 bt209.2.2).bind fun bt212 => ((spec_Calc.f k bt209.1 bt209.2.1 bt209.2.2).bind fun bt214 => (if bt212.1 = bt214.1 then (if bt212.2 = bt214.2 then (if bt212.2 = 0 then ((impl_ValOk.f bt212.1).bind fun t216 => (laws_FnValues.j0 k l0 bt209.2.1 bt209.2.2 (!t216))) else (if bt212.1 = 0 then ((impl_ValOk.f bt212.1).bind fun t217 => (laws_FnValues.j0 k l0 bt209.2.1 bt209.2.2 (!t217))) else (laws_FnValues.j0 k l0 bt209.2.1 bt209.2.2 true))) else (laws_FnValues.j0 k l0 bt209.2.1 bt209.2.2 true)) else (laws_FnValues.j0 k l0 bt209.2.1 bt209.2.2 true)))))) = some r := H
 have A2 := Aside0.mk A20
 clear A20
 by_cases c3 : t208 = true
 ·subst c3
  have H1 : (some true) = some r := by rw [if_pos rfl] at H; exact H
  clear H
  have H := H1
  clear H1
  obtain rfl := Option.some.inj H
  go_enter Try.func13, Try.ntmps13
  go_wp2_with (first | ((with_reducible refine gate_callee (f := 33) rfl ?_); refine goesL_ (some 21) rfl rfl Try.func33 (by kernel_rfl) rfl #[.slice A0 l0.length c0] rfl Mp_ ?_; (with_reducible refine (laws_big.calls _ _ l0 true _ ?side1 ?side2 A2.out).mono ?_); (case side1 => repeat (first | exact HR0.out | (with_reducible refine Kd.C_alloc ?_ _) | (with_reducible refine Kd.C_drewN ?_ _) | (with_reducible refine Kd.C_drew ?_))); (case side2 => exact HC0.out); rintro e w' ⟨rfl, ⟨nd, rfl⟩⟩; refine ⟨_, rfl, ?_⟩))
  go_ret
  exact ⟨Re_, Hf_ HB⟩
 ·replace c3 := Bool.eq_false_iff.mpr c3
  subst c3
  have H1 : ((spec_DrawCalc.f k l0).bind fun bt209 => ((impl_Calc.f k bt209.1 bt209.2.1 bt209.2.2).bind fun bt212 => ((spec_Calc.f k bt209.1 bt209.2.1 bt209.2.2).bind fun bt214 => (if bt212.1 = bt214.1 then (if bt212.2 = bt214.2 then (if bt212.2 = 0 then ((impl_ValOk.f bt212.1).bind fun t216 => (laws_FnValues.j0 k l0 bt209.2.1 bt209.2.2 (!t216))) else (if bt212.1 = 0 then ((impl_ValOk.f bt212.1).bind fun t217 => (laws_FnValues.j0 k l0 bt209.2.1 bt209.2.2 (!t217))) else (laws_FnValues.j0 k l0 bt209.2.1 bt209.2.2 true))) else (laws_FnValues.j0 k l0 bt209.2.1 bt209.2.2 true)) else (laws_FnValues.j0 k l0 bt209.2.1 bt209.2.2 true))))) = some r := by rw [if_neg (show ¬ (false = true) by decide)] at H; exact H
  clear H
  have H := H1
  clear H1
  replace H := Option.bind_eq_some_iff.mp H
  obtain ⟨⟨t209, t210, t211⟩, A40, H⟩ := H
  replace H : ((impl_Calc.f k t209 t210 t211).bind fun bt212 => ((spec_Calc.f k t209 t210 t211).bind fun bt214 => (if bt212.1 = bt214.1 then (if bt212.2 = bt214.2 then (if bt212.2 = 0 then ((impl_ValOk.f bt212.1).bind fun t216 => (laws_FnValues.j0 k l0 t210 t211 (!t216))) else (if bt212.1 = 0 then ((impl_ValOk.f bt212.1).bind fun t217 => (laws_FnValues.j0 k l0 t210 t211 (!t217))) else (laws_FnValues.j0 k l0 t210 t211 true))) else (laws_FnValues.j0 k l0 t210 t211 true)) else (laws_FnValues.j0 k l0 t210 t211 true)))) = some r := H
  have A4 := Aside0.mk A40
  clear A40
  replace H := Option.bind_eq_some_iff.mp H
  obtain ⟨⟨t212, t213⟩, A50, H⟩ := H
  replace H : ((spec_Calc.f k t209 t210 t211).bind fun bt214 => (if t212 = bt214.1 then (if t213 = bt214.2 then (if t213 = 0 then ((impl_ValOk.f t212).bind fun t216 => (laws_FnValues.j0 k l0 t210 t211 (!t216))) else (if t212 = 0 then ((impl_ValOk.f t212).bind fun t217 => (laws_FnValues.j0 k l0 t210 t211 (!t217))) else (laws_FnValues.j0 k l0 t210 t211 true))) else (laws_FnValues.j0 k l0 t210 t211 true)) else (laws_FnValues.j0 k l0 t210 t211 true))) = some r := H
  have A5 := Aside0.mk A50
  clear A50
  replace H := Option.bind_eq_some_iff.mp H
  obtain ⟨⟨t214, t215⟩, A60, H⟩ := H
  replace H : (if t212 = t214 then (if t213 = t215 then (if t213 = 0 then ((impl_ValOk.f t212).bind fun t216 => (laws_FnValues.j0 k l0 t210 t211 (!t216))) else (if t212 = 0 then ((impl_ValOk.f t212).bind fun t217 => (laws_FnValues.j0 k l0 t210 t211 (!t217))) else (laws_FnValues.j0 k l0 t210 t211 true))) else (laws_FnValues.j0 k l0 t210 t211 true)) else (laws_FnValues.j0 k l0 t210 t211 true)) = some r := H
  have A6 := Aside0.mk A60
  clear A60
  have HC7 := Aside0.mk H
  clear H
  go_enter Try.func13, Try.ntmps13
  go_upto_region 6 with (first | ((with_reducible refine gate_callee (f := 33) rfl ?_); refine goesL_ (some 21) rfl rfl Try.func33 (by kernel_rfl) rfl #[.slice A0 l0.length c0] rfl Mp_ ?_; (with_reducible refine (laws_big.calls _ _ l0 false _ ?side1 ?side2 A2.out).mono ?_); (case side1 => repeat (first | exact HR0.out | (with_reducible refine Kd.C_alloc ?_ _) | (with_reducible refine Kd.C_drewN ?_ _) | (with_reducible refine Kd.C_drew ?_))); (case side2 => exact HC0.out); rintro e w' ⟨rfl, ⟨nd, rfl⟩⟩; refine ⟨_, rfl, ?_⟩) | ((with_reducible refine gate_callee (f := 46) rfl ?_); refine goesL_ (some 24) rfl rfl Try.func46 (by kernel_rfl) rfl #[.slice A0 l0.length c0] rfl Mp_ ?_; (with_reducible refine (spec_DrawCalc.calls k _ _ l0 t209 t210 t211 _ ?side1 ?side2 A4.out).mono ?_); (case side1 => repeat (first | exact HR0.out | (with_reducible refine Kd.C_alloc ?_ _) | (with_reducible refine Kd.C_drewN ?_ _) | (with_reducible refine Kd.C_drew ?_))); (case side2 => exact HC0.out); rintro e w8 ⟨rfl, hb⟩; refine ⟨_, rfl, ?_⟩; replace HB := Hs_ HB hb; (try clear hb); (try clear hb2); (try clear hk); (try clear hi)) | ((with_reducible refine gate_callee (f := 35) rfl ?_); refine goesL_ (some 32) rfl rfl Try.func35 (by kernel_rfl) rfl #[.int .i64 t209, .int .i64 t210, .int .i64 t211] rfl Mp_ ?_; (with_reducible refine (impl_Calc.calls k t209 t210 t211 t212 t213 _ A5.out).mono ?_); rintro e w' ⟨rfl, ⟨nd, rfl⟩⟩; refine ⟨_, rfl, ?_⟩) | ((with_reducible refine gate_callee (f := 36) rfl ?_); refine goesL_ (some 39) rfl rfl Try.func36 (by kernel_rfl) rfl #[.int .i64 t209, .int .i64 t210, .int .i64 t211] rfl Mp_ ?_; (with_reducible refine (spec_Calc.calls k t209 t210 t211 t214 t215 _ A6.out).mono ?_); rintro e w' ⟨rfl, ⟨nd, rfl⟩⟩; refine ⟨_, rfl, ?_⟩))
  (try simp only [Act.put, List.setIfInBounds_toArray, List.set_cons_zero, List.set_cons_succ])
  go_cut [62] (fun v62 wc => ∃ (kq : Nat) (x62_6 : Bool), v62 = .bool x62_6 ∧ Aside0 (laws_FnValues.j0 kq l0 t210 t211 x62_6 = some r) ∧ Aside0 (kq ≤ k) ∧ Aside0 (Below w.heap.size w wc))
  case first =>
   have H := HC7.out
   clear HC7
   by_cases c9 : t212 = t214
   ·rw [if_pos c9] at H
    have c9b0 : (t212 == t214) = true := beq_iff_eq.mpr c9
    have c9b1 : (t212 != t214) = false := bne_eq_false_iff_eq.mpr c9
    clear c9
    (first | rw [c9b0] | (simp only [i64_w, i32_w]; rw [c9b0]) | skip)
    by_cases c10 : t213 = t215
    ·rw [if_pos c10] at H
     have c10b0 : (t213 == t215) = true := beq_iff_eq.mpr c10
     have c10b1 : (t213 != t215) = false := bne_eq_false_iff_eq.mpr c10
     clear c10
     by_cases c11 : t213 = 0
     ·rw [if_pos c11] at H
      have c11b0 : (t213 == 0) = true := beq_iff_eq.mpr c11
      have c11b1 : (t213 != 0) = false := bne_eq_false_iff_eq.mpr c11
      clear c11
      replace H := Option.bind_eq_some_iff.mp H
      obtain ⟨t216, A120, H⟩ := H
      replace H : (laws_FnValues.j0 k l0 t210 t211 (!t216)) = some r := H
      have A12 := Aside0.mk A120
      clear A120
      have H' := Aside0.mk H
      clear H
      go_wp2_with (first | (go_at_call 47; (with_reducible refine (impl_ValOk.calls t212 t216 _ A12.out).mono ?_); rintro e w' ⟨rfl, ⟨nd, rfl⟩⟩))
      go_meet
      case rel => exact ⟨_, (!t216), (by first | rfl | (simp; done) | (simp [*]; done)), H', ⟨by first | omega | exact Nat.le_refl _⟩, ⟨Hf_ HB⟩⟩
     ·rw [if_neg c11] at H
      have c11b0 : (t213 == 0) = false := beq_eq_false_iff_ne.mpr c11
      have c11b1 : (t213 != 0) = true := bne_iff_ne.mpr c11
      by_cases c13 : t212 = 0
      ·rw [if_pos c13] at H
       have c13b0 : (t212 == 0) = true := beq_iff_eq.mpr c13
       have c13b1 : (t212 != 0) = false := bne_eq_false_iff_eq.mpr c13
       clear c13
       replace H := Option.bind_eq_some_iff.mp H
       obtain ⟨t217, A140, H⟩ := H
       replace H : (laws_FnValues.j0 k l0 t210 t211 (!t217)) = some r := H
       have A14 := Aside0.mk A140
       clear A140
       have H' := Aside0.mk H
       clear H
       go_wp2_with (first | (go_at_call 47; (with_reducible refine (impl_ValOk.calls t212 t217 _ A14.out).mono ?_); rintro e w' ⟨rfl, ⟨nd, rfl⟩⟩))
       go_meet
       case rel => exact ⟨_, (!t217), (by first | rfl | (simp; done) | (simp [*]; done)), H', ⟨by first | omega | exact Nat.le_refl _⟩, ⟨Hf_ HB⟩⟩
      ·rw [if_neg c13] at H
       have c13b0 : (t212 == 0) = false := beq_eq_false_iff_ne.mpr c13
       have c13b1 : (t212 != 0) = true := bne_iff_ne.mpr c13
       have H' := Aside0.mk H
       clear H
       go_wp2
       go_meet
       case rel => exact ⟨_, (true), (by first | rfl | (simp; done) | (simp [*]; done)), H', ⟨by first | omega | exact Nat.le_refl _⟩, ⟨Hf_ HB⟩⟩
    ·rw [if_neg c10] at H
     have c10b0 : (t213 == t215) = false := beq_eq_false_iff_ne.mpr c10
     have c10b1 : (t213 != t215) = true := bne_iff_ne.mpr c10
     have H' := Aside0.mk H
     clear H
     go_wp2
     go_meet
     case rel => exact ⟨_, (true), (by first | rfl | (simp; done) | (simp [*]; done)), H', ⟨by first | omega | exact Nat.le_refl _⟩, ⟨Hf_ HB⟩⟩
   ·rw [if_neg c9] at H
    have c9b0 : (t212 == t214) = false := beq_eq_false_iff_ne.mpr c9
    have c9b1 : (t212 != t214) = true := bne_iff_ne.mpr c9
    (first | rw [c9b0] | (simp only [i64_w, i32_w]; rw [c9b0]) | skip)
    have H' := Aside0.mk H
    clear H
    go_wp2
    go_meet
    case rel => exact ⟨_, (true), (by first | rfl | (simp; done) | (simp [*]; done)), H', ⟨by first | omega | exact Nat.le_refl _⟩, ⟨Hf_ HB⟩⟩
  case rest =>
   clear HC7
   try clear c1
   try clear p2
   try clear c3
   try clear c4
   try clear c9
   try clear c9b0
   try clear c9b1
   try clear c10
   try clear c10b0
   try clear c10b1
   try clear c11
   try clear c11b0
   try clear c11b1
   try clear c13
   try clear c13b0
   try clear c13b1
   obtain ⟨kq, x62_6, rfl, HA, HJ6, HB⟩ := hcut
   cases kq with
   | zero => exact absurd HA.out (by simp [laws_FnValues.j0])
   | succ kj6 =>
    have H := HA.out
    clear HA
    simp only [laws_FnValues.j0] at H
    by_cases c15 : x62_6 = true
    ·subst c15
     have H1 : (some false) = some r := by rw [if_pos rfl] at H; exact H
     clear H
     have H := H1
     clear H1
     exact absurd (Option.some.inj H) (by rw [hlaw_.out]; decide)
    ·replace c15 := Bool.eq_false_iff.mpr c15
     subst c15
     have H1 : ((impl_ValOk.f t210).bind fun t218 => (if t218 = true then ((impl_ValOk.f t211).bind fun t219 => (if t219 = true then (laws_FnValues.j1 kj6 l0 t210 t211 (t211 != 0)) else (laws_FnValues.j1 kj6 l0 t210 t211 false))) else (laws_FnValues.j1 kj6 l0 t210 t211 false))) = some r := by rw [if_neg (show ¬ (false = true) by decide)] at H; exact H
     clear H
     have H := H1
     clear H1
     have HC16 := Aside0.mk H
     clear H
     go_upto_region 8 with (fail)
     go_cut [72] (fun v72 wc => ∃ (kq : Nat) (x72_15 : Bool), v72 = .bool x72_15 ∧ Aside0 (laws_FnValues.j1 kq l0 t210 t211 x72_15 = some r) ∧ Aside0 (kq ≤ kj6) ∧ Aside0 (Below w.heap.size w wc))
     case first =>
      have H := HC16.out
      clear HC16
      replace H := Option.bind_eq_some_iff.mp H
      obtain ⟨t218, A170, H⟩ := H
      replace H : (if t218 = true then ((impl_ValOk.f t211).bind fun t219 => (if t219 = true then (laws_FnValues.j1 kj6 l0 t210 t211 (t211 != 0)) else (laws_FnValues.j1 kj6 l0 t210 t211 false))) else (laws_FnValues.j1 kj6 l0 t210 t211 false)) = some r := H
      have A17 := Aside0.mk A170
      clear A170
      by_cases c18 : t218 = true
      ·subst c18
       have H1 : ((impl_ValOk.f t211).bind fun t219 => (if t219 = true then (laws_FnValues.j1 kj6 l0 t210 t211 (t211 != 0)) else (laws_FnValues.j1 kj6 l0 t210 t211 false))) = some r := by rw [if_pos rfl] at H; exact H
       clear H
       have H := H1
       clear H1
       replace H := Option.bind_eq_some_iff.mp H
       obtain ⟨t219, A190, H⟩ := H
       replace H : (if t219 = true then (laws_FnValues.j1 kj6 l0 t210 t211 (t211 != 0)) else (laws_FnValues.j1 kj6 l0 t210 t211 false)) = some r := H
       have A19 := Aside0.mk A190
       clear A190
       by_cases c20 : t219 = true
       ·subst c20
        have H1 : (laws_FnValues.j1 kj6 l0 t210 t211 (t211 != 0)) = some r := by rw [if_pos rfl] at H; exact H
        clear H
        have H := H1
        clear H1
        have H' := Aside0.mk H
        clear H
        go_wp2_with (first | ((with_reducible refine gate_callee (f := 47) rfl ?_); refine goesL_ (some 64) rfl rfl Try.func47 (by kernel_rfl) rfl #[.int .i64 t210] rfl Mp_ ?_; (with_reducible refine (impl_ValOk.calls t210 true _ A17.out).mono ?_); rintro e w' ⟨rfl, ⟨nd, rfl⟩⟩; refine ⟨_, rfl, ?_⟩) | (go_at_call 47; (with_reducible refine (impl_ValOk.calls t211 true _ A19.out).mono ?_); rintro e w' ⟨rfl, ⟨nd, rfl⟩⟩))
        go_meet
        case rel => exact ⟨_, ((t211 != 0)), (by first | rfl | (simp; done) | (simp [*]; done)), H', ⟨by have := HJ6.out; first | omega | exact Nat.le_refl _⟩, ⟨Hf_ HB⟩⟩
       ·replace c20 := Bool.eq_false_iff.mpr c20
        subst c20
        have H1 : (laws_FnValues.j1 kj6 l0 t210 t211 false) = some r := by rw [if_neg (show ¬ (false = true) by decide)] at H; exact H
        clear H
        have H := H1
        clear H1
        have H' := Aside0.mk H
        clear H
        go_wp2_with (first | ((with_reducible refine gate_callee (f := 47) rfl ?_); refine goesL_ (some 64) rfl rfl Try.func47 (by kernel_rfl) rfl #[.int .i64 t210] rfl Mp_ ?_; (with_reducible refine (impl_ValOk.calls t210 true _ A17.out).mono ?_); rintro e w' ⟨rfl, ⟨nd, rfl⟩⟩; refine ⟨_, rfl, ?_⟩) | (go_at_call 47; (with_reducible refine (impl_ValOk.calls t211 false _ A19.out).mono ?_); rintro e w' ⟨rfl, ⟨nd, rfl⟩⟩))
        go_meet
        case rel => exact ⟨_, (false), (by first | rfl | (simp; done) | (simp [*]; done)), H', ⟨by have := HJ6.out; first | omega | exact Nat.le_refl _⟩, ⟨Hf_ HB⟩⟩
      ·replace c18 := Bool.eq_false_iff.mpr c18
       subst c18
       have H1 : (laws_FnValues.j1 kj6 l0 t210 t211 false) = some r := by rw [if_neg (show ¬ (false = true) by decide)] at H; exact H
       clear H
       have H := H1
       clear H1
       have H' := Aside0.mk H
       clear H
       go_wp2_with (first | ((with_reducible refine gate_callee (f := 47) rfl ?_); refine goesL_ (some 64) rfl rfl Try.func47 (by kernel_rfl) rfl #[.int .i64 t210] rfl Mp_ ?_; (with_reducible refine (impl_ValOk.calls t210 false _ A17.out).mono ?_); rintro e w' ⟨rfl, ⟨nd, rfl⟩⟩; refine ⟨_, rfl, ?_⟩))
       go_meet
       case rel => exact ⟨_, (false), (by first | rfl | (simp; done) | (simp [*]; done)), H', ⟨by have := HJ6.out; first | omega | exact Nat.le_refl _⟩, ⟨Hf_ HB⟩⟩
     case rest =>
      clear HC16
      try clear c1
      try clear c2
      try clear p2
      try clear c3
      try clear c4
      try clear c9
      try clear c9b0
      try clear c9b1
      try clear c10
      try clear c10b0
      try clear c10b1
      try clear c11
      try clear c11b0
      try clear c11b1
      try clear c13
      try clear c13b0
      try clear c13b1
      try clear c15
      try clear c18
      try clear c20
      try clear p2
      obtain ⟨kq, x72_15, rfl, HA, HJ15, HB⟩ := hcut
      cases kq with
      | zero => exact absurd HA.out (by simp [laws_FnValues.j1])
      | succ kj15 =>
       have H := HA.out
       clear HA
       simp only [laws_FnValues.j1] at H
       have HC21 := Aside0.mk H
       clear H
       go_upto_if 72 with (fail)
       go_cut [] (fun wc => ∃ (kq : Nat), Aside0 (laws_FnValues.j2 kq l0 t210 = some r) ∧ Aside0 (kq ≤ kj15) ∧ Aside0 (Below w.heap.size w wc))
       case first =>
        have H := HC21.out
        clear HC21
        by_cases c22 : x72_15 = true
        ·subst c22
         have H1 : ((impl_Calc.f kj15 4 t210 t211).bind fun bt220 => ((impl_Calc.f kj15 5 t210 t211).bind fun bt222 => (if bt220.2 = 0 then (if bt222.2 = 0 then (if (wrap64 ((wrap64 (bt220.1 * t211)) + bt222.1)) = t210 then (laws_FnValues.j2 kj15 l0 t210) else (some false)) else (some false)) else (some false)))) = some r := by rw [if_pos rfl] at H; exact H
         clear H
         have H := H1
         clear H1
         replace H := Option.bind_eq_some_iff.mp H
         obtain ⟨⟨t220, t221⟩, A230, H⟩ := H
         replace H : ((impl_Calc.f kj15 5 t210 t211).bind fun bt222 => (if t221 = 0 then (if bt222.2 = 0 then (if (wrap64 ((wrap64 (t220 * t211)) + bt222.1)) = t210 then (laws_FnValues.j2 kj15 l0 t210) else (some false)) else (some false)) else (some false))) = some r := H
         have A23 := Aside0.mk A230
         clear A230
         replace H := Option.bind_eq_some_iff.mp H
         obtain ⟨⟨t222, t223⟩, A240, H⟩ := H
         replace H : (if t221 = 0 then (if t223 = 0 then (if (wrap64 ((wrap64 (t220 * t211)) + t222)) = t210 then (laws_FnValues.j2 kj15 l0 t210) else (some false)) else (some false)) else (some false)) = some r := H
         have A24 := Aside0.mk A240
         clear A240
         by_cases c25 : t221 = 0
         ·rw [if_pos c25] at H
          have c25b0 : (t221 == 0) = true := beq_iff_eq.mpr c25
          have c25b1 : (t221 != 0) = false := bne_eq_false_iff_eq.mpr c25
          clear c25
          (first | rw [c25b0] | (simp only [i64_w, i32_w]; rw [c25b0]) | skip)
          by_cases c26 : t223 = 0
          ·rw [if_pos c26] at H
           have c26b0 : (t223 == 0) = true := beq_iff_eq.mpr c26
           have c26b1 : (t223 != 0) = false := bne_eq_false_iff_eq.mpr c26
           clear c26
           by_cases c27 : (wrap64 ((wrap64 (t220 * t211)) + t222)) = t210
           ·rw [if_pos c27] at H
            have c27b0 : ((wrap64 ((wrap64 (t220 * t211)) + t222)) == t210) = true := beq_iff_eq.mpr c27
            have c27b1 : ((wrap64 ((wrap64 (t220 * t211)) + t222)) != t210) = false := bne_eq_false_iff_eq.mpr c27
            clear c27
            have H' := Aside0.mk H
            clear H
            go_wp2_with (first | ((with_reducible refine gate_callee (f := 35) rfl ?_); refine goesL_ (some 76) rfl rfl Try.func35 (by kernel_rfl) rfl #[.int .i64 4, .int .i64 t210, .int .i64 t211] rfl Mp_ ?_; (with_reducible refine (impl_Calc.calls kj15 4 t210 t211 t220 t221 _ A23.out).mono ?_); rintro e w' ⟨rfl, ⟨nd, rfl⟩⟩; refine ⟨_, rfl, ?_⟩) | ((with_reducible refine gate_callee (f := 35) rfl ?_); refine goesL_ (some 82) rfl rfl Try.func35 (by kernel_rfl) rfl #[.int .i64 5, .int .i64 t210, .int .i64 t211] rfl Mp_ ?_; (with_reducible refine (impl_Calc.calls kj15 5 t210 t211 t222 t223 _ A24.out).mono ?_); rintro e w' ⟨rfl, ⟨nd, rfl⟩⟩; refine ⟨_, rfl, ?_⟩))
            go_meet
            case rel => exact ⟨_, H', ⟨by have := HJ6.out; have := HJ15.out; first | omega | exact Nat.le_refl _⟩, ⟨Hf_ HB⟩⟩
           ·rw [if_neg c27] at H
            have c27b0 : ((wrap64 ((wrap64 (t220 * t211)) + t222)) == t210) = false := beq_eq_false_iff_ne.mpr c27
            have c27b1 : ((wrap64 ((wrap64 (t220 * t211)) + t222)) != t210) = true := bne_iff_ne.mpr c27
            exact absurd (Option.some.inj H) (by rw [hlaw_.out]; decide)
          ·rw [if_neg c26] at H
           have c26b0 : (t223 == 0) = false := beq_eq_false_iff_ne.mpr c26
           have c26b1 : (t223 != 0) = true := bne_iff_ne.mpr c26
           exact absurd (Option.some.inj H) (by rw [hlaw_.out]; decide)
         ·rw [if_neg c25] at H
          have c25b0 : (t221 == 0) = false := beq_eq_false_iff_ne.mpr c25
          have c25b1 : (t221 != 0) = true := bne_iff_ne.mpr c25
          (first | rw [c25b0] | (simp only [i64_w, i32_w]; rw [c25b0]) | skip)
          exact absurd (Option.some.inj H) (by rw [hlaw_.out]; decide)
        ·replace c22 := Bool.eq_false_iff.mpr c22
         subst c22
         have H1 : (laws_FnValues.j2 kj15 l0 t210) = some r := by rw [if_neg (show ¬ (false = true) by decide)] at H; exact H
         clear H
         have H := H1
         clear H1
         have H' := Aside0.mk H
         clear H
         go_wp2
         go_meet
         case rel => exact ⟨_, H', ⟨by have := HJ6.out; have := HJ15.out; first | omega | exact Nat.le_refl _⟩, ⟨Hf_ HB⟩⟩
       case rest =>
        clear HC21
        try clear c1
        try clear c2
        try clear p2
        try clear c3
        try clear c4
        try clear p6
        try clear c9
        try clear c9b0
        try clear c9b1
        try clear c10
        try clear c10b0
        try clear c10b1
        try clear c11
        try clear c11b0
        try clear c11b1
        try clear c13
        try clear c13b0
        try clear c13b1
        try clear c15
        try clear c18
        try clear c20
        try clear c22
        try clear c25
        try clear c25b0
        try clear c25b1
        try clear c26
        try clear c26b0
        try clear c26b1
        try clear c27
        try clear c27b0
        try clear c27b1
        try clear p2
        obtain ⟨kq, HA, HJ20, HB⟩ := hcut
        cases kq with
        | zero => exact absurd HA.out (by simp [laws_FnValues.j2])
        | succ kj20 =>
         have H := HA.out
         clear HA
         simp only [laws_FnValues.j2] at H
         replace H := Option.bind_eq_some_iff.mp H
         obtain ⟨t224, A280, H⟩ := H
         replace H : ((spec_DrawDenied.f kj20 l0).bind fun t225 => ((impl_Negated.f t224).bind fun bt226 => ((spec_Negated.f t224).bind fun bt228 => (if bt226.1 = bt228.1 then (if bt226.2 = bt228.2 then ((impl_Denied.f t225).bind fun t230 => ((spec_Denied.f t225).bind fun t231 => (if t230 = t231 then ((impl_Denied.f 0).bind fun t232 => (if t232 = 1 then ((impl_ValOk.f t210).bind fun t233 => ((spec_ValOk.f t210).bind fun t234 => (some (t233 == t234)))) else (some false))) else (some false)))) else (some false)) else (some false))))) = some r := H
         have A28 := Aside0.mk A280
         clear A280
         replace H := Option.bind_eq_some_iff.mp H
         obtain ⟨t225, A290, H⟩ := H
         replace H : ((impl_Negated.f t224).bind fun bt226 => ((spec_Negated.f t224).bind fun bt228 => (if bt226.1 = bt228.1 then (if bt226.2 = bt228.2 then ((impl_Denied.f t225).bind fun t230 => ((spec_Denied.f t225).bind fun t231 => (if t230 = t231 then ((impl_Denied.f 0).bind fun t232 => (if t232 = 1 then ((impl_ValOk.f t210).bind fun t233 => ((spec_ValOk.f t210).bind fun t234 => (some (t233 == t234)))) else (some false))) else (some false)))) else (some false)) else (some false)))) = some r := H
         have A29 := Aside0.mk A290
         clear A290
         replace H := Option.bind_eq_some_iff.mp H
         obtain ⟨⟨t226, t227⟩, A300, H⟩ := H
         replace H : ((spec_Negated.f t224).bind fun bt228 => (if t226 = bt228.1 then (if t227 = bt228.2 then ((impl_Denied.f t225).bind fun t230 => ((spec_Denied.f t225).bind fun t231 => (if t230 = t231 then ((impl_Denied.f 0).bind fun t232 => (if t232 = 1 then ((impl_ValOk.f t210).bind fun t233 => ((spec_ValOk.f t210).bind fun t234 => (some (t233 == t234)))) else (some false))) else (some false)))) else (some false)) else (some false))) = some r := H
         have A30 := Aside0.mk A300
         clear A300
         replace H := Option.bind_eq_some_iff.mp H
         obtain ⟨⟨t228, t229⟩, A310, H⟩ := H
         replace H : (if t226 = t228 then (if t227 = t229 then ((impl_Denied.f t225).bind fun t230 => ((spec_Denied.f t225).bind fun t231 => (if t230 = t231 then ((impl_Denied.f 0).bind fun t232 => (if t232 = 1 then ((impl_ValOk.f t210).bind fun t233 => ((spec_ValOk.f t210).bind fun t234 => (some (t233 == t234)))) else (some false))) else (some false)))) else (some false)) else (some false)) = some r := H
         have A31 := Aside0.mk A310
         clear A310
         by_cases c32 : t226 = t228
         ·rw [if_pos c32] at H
          have c32b0 : (t226 == t228) = true := beq_iff_eq.mpr c32
          have c32b1 : (t226 != t228) = false := bne_eq_false_iff_eq.mpr c32
          clear c32
          by_cases c33 : t227 = t229
          ·rw [if_pos c33] at H
           have c33b0 : (t227 == t229) = true := beq_iff_eq.mpr c33
           have c33b1 : (t227 != t229) = false := bne_eq_false_iff_eq.mpr c33
           clear c33
           replace H := Option.bind_eq_some_iff.mp H
           obtain ⟨t230, A340, H⟩ := H
           replace H : ((spec_Denied.f t225).bind fun t231 => (if t230 = t231 then ((impl_Denied.f 0).bind fun t232 => (if t232 = 1 then ((impl_ValOk.f t210).bind fun t233 => ((spec_ValOk.f t210).bind fun t234 => (some (t233 == t234)))) else (some false))) else (some false))) = some r := H
           have A34 := Aside0.mk A340
           clear A340
           replace H := Option.bind_eq_some_iff.mp H
           obtain ⟨t231, A350, H⟩ := H
           replace H : (if t230 = t231 then ((impl_Denied.f 0).bind fun t232 => (if t232 = 1 then ((impl_ValOk.f t210).bind fun t233 => ((spec_ValOk.f t210).bind fun t234 => (some (t233 == t234)))) else (some false))) else (some false)) = some r := H
           have A35 := Aside0.mk A350
           clear A350
           by_cases c36 : t230 = t231
           ·rw [if_pos c36] at H
            have c36b0 : (t230 == t231) = true := beq_iff_eq.mpr c36
            have c36b1 : (t230 != t231) = false := bne_eq_false_iff_eq.mpr c36
            clear c36
            replace H := Option.bind_eq_some_iff.mp H
            obtain ⟨t232, A370, H⟩ := H
            replace H : (if t232 = 1 then ((impl_ValOk.f t210).bind fun t233 => ((spec_ValOk.f t210).bind fun t234 => (some (t233 == t234)))) else (some false)) = some r := H
            have A37 := Aside0.mk A370
            clear A370
            by_cases c38 : t232 = 1
            ·rw [if_pos c38] at H
             have c38b0 : (t232 == 1) = true := beq_iff_eq.mpr c38
             have c38b1 : (t232 != 1) = false := bne_eq_false_iff_eq.mpr c38
             clear c38
             replace H := Option.bind_eq_some_iff.mp H
             obtain ⟨t233, A390, H⟩ := H
             replace H : ((spec_ValOk.f t210).bind fun t234 => (some (t233 == t234))) = some r := H
             have A39 := Aside0.mk A390
             clear A390
             replace H := Option.bind_eq_some_iff.mp H
             obtain ⟨t234, A400, H⟩ := H
             replace H : (some (t233 == t234)) = some r := H
             have A40 := Aside0.mk A400
             clear A400
             obtain rfl := Option.some.inj H
             go_wp2_with (first | ((with_reducible refine gate_callee (f := 48) rfl ?_); refine goesL_ (some 101) rfl rfl Try.func48 (by kernel_rfl) rfl #[.slice A0 l0.length c0] rfl Mp_ ?_; (with_reducible refine (spec_DrawNegated.calls kj20 _ _ l0 t224 _ ?side1 ?side2 A28.out).mono ?_); (case side1 => exact Sc_ HR0 HB); (case side2 => exact HC0.out); rintro e w41 ⟨rfl, hb⟩; refine ⟨_, rfl, ?_⟩; replace HB := Hs_ HB hb; (try clear hb); (try clear hb2); (try clear hk); (try clear hi)) | ((with_reducible refine gate_callee (f := 49) rfl ?_); refine goesL_ (some 103) rfl rfl Try.func49 (by kernel_rfl) rfl #[.slice A0 l0.length c0] rfl Mp_ ?_; (with_reducible refine (spec_DrawDenied.calls kj20 _ _ l0 t225 _ ?side1 ?side2 A29.out).mono ?_); (case side1 => exact Sc_ HR0 HB); (case side2 => exact HC0.out); rintro e w42 ⟨rfl, hb⟩; refine ⟨_, rfl, ?_⟩; replace HB := Hs_ HB hb; (try clear hb); (try clear hb2); (try clear hk); (try clear hi)) | ((with_reducible refine gate_callee (f := 50) rfl ?_); refine goesL_ (some 106) rfl rfl Try.func50 (by kernel_rfl) rfl #[.int .i64 t224] rfl Mp_ ?_; (with_reducible refine (impl_Negated.calls t224 t226 t227 _ A30.out).mono ?_); rintro e w' ⟨rfl, ⟨nd, rfl⟩⟩; refine ⟨_, rfl, ?_⟩) | ((with_reducible refine gate_callee (f := 51) rfl ?_); refine goesL_ (some 111) rfl rfl Try.func51 (by kernel_rfl) rfl #[.int .i64 t224] rfl Mp_ ?_; (with_reducible refine (spec_Negated.calls t224 t228 t229 _ A31.out).mono ?_); rintro e w' ⟨rfl, ⟨nd, rfl⟩⟩; refine ⟨_, rfl, ?_⟩) | (go_at_call 52; (with_reducible refine (impl_Denied.calls t225 t230 _ A34.out).mono ?_); rintro e w' ⟨rfl, ⟨nd, rfl⟩⟩) | (go_at_call 53; (with_reducible refine (spec_Denied.calls t225 t231 _ A35.out).mono ?_); rintro e w' ⟨rfl, ⟨nd, rfl⟩⟩) | (go_at_call 52; (with_reducible refine (impl_Denied.calls 0 t232 _ A37.out).mono ?_); rintro e w' ⟨rfl, ⟨nd, rfl⟩⟩) | (go_at_call 47; (with_reducible refine (impl_ValOk.calls t210 t233 _ A39.out).mono ?_); rintro e w' ⟨rfl, ⟨nd, rfl⟩⟩) | (go_at_call 54; (with_reducible refine (spec_ValOk.calls t210 t234 _ A40.out).mono ?_); rintro e w' ⟨rfl, ⟨nd, rfl⟩⟩))
             go_ret
             exact ⟨Re_, Hf_ HB⟩
            ·rw [if_neg c38] at H
             have c38b0 : (t232 == 1) = false := beq_eq_false_iff_ne.mpr c38
             have c38b1 : (t232 != 1) = true := bne_iff_ne.mpr c38
             exact absurd (Option.some.inj H) (by rw [hlaw_.out]; decide)
           ·rw [if_neg c36] at H
            have c36b0 : (t230 == t231) = false := beq_eq_false_iff_ne.mpr c36
            have c36b1 : (t230 != t231) = true := bne_iff_ne.mpr c36
            exact absurd (Option.some.inj H) (by rw [hlaw_.out]; decide)
          ·rw [if_neg c33] at H
           have c33b0 : (t227 == t229) = false := beq_eq_false_iff_ne.mpr c33
           have c33b1 : (t227 != t229) = true := bne_iff_ne.mpr c33
           exact absurd (Option.some.inj H) (by rw [hlaw_.out]; decide)
         ·rw [if_neg c32] at H
          have c32b0 : (t226 == t228) = false := beq_eq_false_iff_ne.mpr c32
          have c32b1 : (t226 != t228) = true := bne_iff_ne.mpr c32
          exact absurd (Option.some.inj H) (by rw [hlaw_.out]; decide)

/-- THE ONE PURE STATEMENT of laws_FnValues: yours. -/
def laws_FnValues.Pure : Prop := ∀ (l0 : List Int), l0.length ≤ maxLen → l0.length * 1 ≤ 140737488351232 → (∀ x ∈ l0, (Lit.int .u8 x).wf = true) → ∃ k, laws_FnValues.f k l0 = some true
theorem laws_FnValues.walk (P : laws_FnValues.Pure) (a0 : Option Addr) (len0 cap0 : Nat) (z0 : List Int) (w : World) (w0 : (a0 = none ∧ len0 = 0 ∧ cap0 = 0 ∧ z0 = []) ∨ ∃ x, a0 = some x ∧ len0 ≤ cap0 ∧ cap0 ≤ maxLen ∧ z0.length = cap0 ∧ (∀ i, i < z0.length → w.cell? (x.add i) = some (.int .u8 (z0.getD i 0))) ∧ ∀ n ∈ z0, (Lit.int .u8 n).wf = true) (y0 : len0 * 1 ≤ 140737488351232) :
  Calls Try.prog 13 #[.slice a0 len0 cap0] w fun e w' => e = .returned (.bool true) ∧ Below w.heap.size w w' := by
 obtain ⟨l0, rfl, hr0, hm0, hw0, hc0⟩ := ReadsInt.ofRowC w0
 obtain ⟨k, h⟩ := P l0 hm0 y0 hw0
 refine (laws_FnValues.calls k _ _ l0 true w (Kd.C_of_reads (d := (0 : Int)) (h1 := fun _ => rfl) hr0) hc0 ⟨rfl⟩ h).mono ?_
 rintro e w' ⟨rfl, hd⟩
 exact ⟨rfl, hd⟩

end Go.Proofs.Ytfgobagibkbocaa.PFnValues
