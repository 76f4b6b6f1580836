/- The machine side of the law FnOrders: for each function that it reaches, a Lean function and its contract. Written by a program of this session's over the kit's print. No condition. -/
import Derived.Test.YtfgobagibkbocaaCmp
import Derived.Test.YtfgobagibkbocaaPFnOrdersx0
import Derived.Test.YtfgobagibkbocaaPFnOrdersx1
namespace Go.Proofs.Ytfgobagibkbocaa.PFnOrders
open Go.RowKit Go.Proofs.YtfgobagibkbocaaW.PrintWords Go.Proofs.YtfgobagibkbocaaW.PrintLast Go.Proofs.YtfgobagibkbocaaW.PrintMore Go.Proofs.Ytfgobagibkbocaa.Cmp
attribute [local go_sem] max2_int min2_int max_two min_two max_three min_three max_four min_four   -- for this text's walks alone
set_option linter.unusedVariables false
set_option linter.unusedSimpArgs false

/-! ### impl_Calc: function 35 -/
mutual
def impl_Calc.j0 : Nat → Int → Int → Int → Bool → Option (Int × Int)
  | 0, _, _, _, _ => none
  | k + 1, x0, x1, x2, x21 => if x21 = true then (some (0, 1)) else (if x2 = 0 then (if x0 = 4 then (impl_Calc.j1 k x0 x1 x2 true) else (impl_Calc.j1 k x0 x1 x2 (x0 == 5))) else (impl_Calc.j1 k x0 x1 x2 false))
def impl_Calc.j1 : Nat → Int → Int → Int → Bool → Option (Int × Int)
  | 0, _, _, _, _ => none
  | k + 1, x0, x1, x2, x31 => if x31 = true then (some (0, 2)) else (if x0 = 1 then ((impl_ValOk.f (wrap64 (x1 + x2))).bind fun t140 => (if t140 = true then (some (wrap64 (x1 + x2), 0)) else (some (0, 1)))) else (if x0 = 2 then ((impl_ValOk.f (wrap64 (x1 - x2))).bind fun t141 => (if t141 = true then (some (wrap64 (x1 - x2), 0)) else (some (0, 1)))) else (if x0 = 3 then ((impl_ValOk.f (wrap64 (x1 * x2))).bind fun t142 => (if t142 = true then (some (wrap64 (x1 * x2), 0)) else (some (0, 1)))) else (if x0 = 4 then (if x2 = 0 then (none) else ((impl_ValOk.f (wrap64 (Int.tdiv x1 x2))).bind fun t143 => (if t143 = true then (some (wrap64 (Int.tdiv x1 x2), 0)) else (some (0, 1))))) else (if x0 = 5 then (if x2 = 0 then (none) else ((impl_ValOk.f (Int.tmod x1 x2)).bind fun t144 => (if t144 = true then (some (Int.tmod x1 x2, 0)) else (some (0, 1))))) else (if x0 = 6 then ((impl_truth.f (decide (x1 < x2))).bind fun t145 => ((impl_ValOk.f t145).bind fun t146 => (if t146 = true then (some (t145, 0)) else (some (0, 1))))) else (if x0 = 7 then ((impl_truth.f (x1 == x2)).bind fun t147 => ((impl_ValOk.f t147).bind fun t148 => (if t148 = true then (some (t147, 0)) else (some (0, 1))))) else (if x0 = 8 then (if x1 = 0 then ((impl_truth.f false).bind fun t149 => ((impl_ValOk.f t149).bind fun t150 => (if t150 = true then (some (t149, 0)) else (some (0, 1))))) else ((impl_truth.f (x2 != 0)).bind fun t151 => ((impl_ValOk.f t151).bind fun t152 => (if t152 = true then (some (t151, 0)) else (some (0, 1)))))) else (if x0 = 9 then (if x1 = 0 then ((impl_truth.f (x2 != 0)).bind fun t153 => ((impl_ValOk.f t153).bind fun t154 => (if t154 = true then (some (t153, 0)) else (some (0, 1))))) else ((impl_truth.f true).bind fun t155 => ((impl_ValOk.f t155).bind fun t156 => (if t156 = true then (some (t155, 0)) else (some (0, 1)))))) else ((impl_ValOk.f 0).bind fun t157 => (if t157 = true then (some (0, 0)) else (some (0, 1)))))))))))))
end
def impl_Calc.f (k : Nat) (a0 : Int) (a1 : Int) (a2 : Int) : Option (Int × Int) := (impl_within.f a0 1 9).bind fun t137 => (if t137 = true then ((impl_ValOk.f a1).bind fun t138 => (if t138 = true then ((impl_ValOk.f a2).bind fun t139 => (impl_Calc.j0 k a0 a1 a2 (!t139))) else (impl_Calc.j0 k a0 a1 a2 true))) else (impl_Calc.j0 k a0 a1 a2 true))
theorem impl_Calc.mono_l : ∀ k, (∀ y0 y1 y2 y3, LeO (impl_Calc.j0 k y0 y1 y2 y3) (impl_Calc.j0 (k + 1) y0 y1 y2 y3)) ∧ (∀ y0 y1 y2 y3, LeO (impl_Calc.j1 k y0 y1 y2 y3) (impl_Calc.j1 (k + 1) y0 y1 y2 y3))
  | 0 => ⟨fun _ _ _ _ r h => by simp [impl_Calc.j0] at h, fun _ _ _ _ r h => by simp [impl_Calc.j1] at h⟩
  | k + 1 => by
    obtain ⟨ih0, ih1⟩ := impl_Calc.mono_l k
    refine ⟨?_, ?_⟩
    · intro y0 y1 y2 y3
      unfold impl_Calc.j0
      repeat' first
      | (with_reducible exact ih0 _ _ _ _)
      | (with_reducible exact ih1 _ _ _ _)
      | (with_reducible exact LeO.refl _)
      | (with_reducible exact LeO.none _)
      | (with_reducible refine LeO.ite ?_ ?_)
      | (with_reducible refine LeO.bind ?_ (fun _ => ?_))
      | exact ih0 _ _ _ _
      | exact ih1 _ _ _ _
      | exact LeO.none _
      | refine LeO.ite ?_ ?_
      | refine LeO.bind ?_ (fun _ => ?_)
    · intro y0 y1 y2 y3
      unfold impl_Calc.j1
      repeat' first
      | (with_reducible exact ih0 _ _ _ _)
      | (with_reducible exact ih1 _ _ _ _)
      | (with_reducible exact LeO.refl _)
      | (with_reducible exact LeO.none _)
      | (with_reducible refine LeO.ite ?_ ?_)
      | (with_reducible refine LeO.bind ?_ (fun _ => ?_))
      | exact ih0 _ _ _ _
      | exact ih1 _ _ _ _
      | exact LeO.none _
      | refine LeO.ite ?_ ?_
      | refine LeO.bind ?_ (fun _ => ?_)
theorem impl_Calc.mono : ∀ a0 a1 a2 k, LeO (impl_Calc.f k a0 a1 a2) (impl_Calc.f (k + 1) a0 a1 a2) := by
  intro a0 a1 a2 k
  obtain ⟨ih0, ih1⟩ := impl_Calc.mono_l k
  unfold impl_Calc.f
  repeat' first
      | (with_reducible exact ih0 _ _ _ _)
      | (with_reducible exact ih1 _ _ _ _)
      | (with_reducible exact LeO.refl _)
      | (with_reducible exact LeO.none _)
      | (with_reducible refine LeO.ite ?_ ?_)
      | (with_reducible refine LeO.bind ?_ (fun _ => ?_))
      | exact ih0 _ _ _ _
      | exact ih1 _ _ _ _
      | exact LeO.none _
      | refine LeO.ite ?_ ?_
      | refine LeO.bind ?_ (fun _ => ?_)
set_option maxHeartbeats 8000000 in
set_option maxRecDepth 100000 in
theorem impl_Calc.calls (k : Nat) (a0 : Int) (a1 : Int) (a2 : Int) (r1 : Int) (r2 : Int) (w : World) (h : impl_Calc.f k a0 a1 a2 = some (r1, r2)) :
    Calls Try.prog 35 #[.int .i64 a0, .int .i64 a1, .int .i64 a2] w fun e w' => e = .returned (.tuple #[.int .i64 r1, .int .i64 r2]) ∧ Drawn0 w w' := by
  have H : ((impl_within.f a0 1 9).bind fun t137 => (if t137 = true then ((impl_ValOk.f a1).bind fun t138 => (if t138 = true then ((impl_ValOk.f a2).bind fun t139 => (impl_Calc.j0 k a0 a1 a2 (!t139))) else (impl_Calc.j0 k a0 a1 a2 true))) else (impl_Calc.j0 k a0 a1 a2 true))) = some (r1, r2) := h
  clear h
  have HC4 := Aside0.mk H
  clear H
  go_enter Try.func35, Try.ntmps35
  go_upto_region 1 with (fail)
  go_cut [21] (fun v21 wc => ∃ (kq : Nat) (x21_3 : Bool), v21 = .bool x21_3 ∧ Aside0 (impl_Calc.j0 kq a0 a1 a2 x21_3 = some (r1, r2)) ∧ Aside0 (kq ≤ k) ∧ Drawn0 w wc)
  case first =>
    have H := HC4.out
    clear HC4
    replace H := Option.bind_eq_some_iff.mp H
    obtain ⟨t137, A50, H⟩ := H
    replace H : (if t137 = true then ((impl_ValOk.f a1).bind fun t138 => (if t138 = true then ((impl_ValOk.f a2).bind fun t139 => (impl_Calc.j0 k a0 a1 a2 (!t139))) else (impl_Calc.j0 k a0 a1 a2 true))) else (impl_Calc.j0 k a0 a1 a2 true)) = some (r1, r2) := H
    have A5 := Aside0.mk A50
    clear A50
    by_cases c6 : t137 = true
    · subst c6
      have H1 : ((impl_ValOk.f a1).bind fun t138 => (if t138 = true then ((impl_ValOk.f a2).bind fun t139 => (impl_Calc.j0 k a0 a1 a2 (!t139))) else (impl_Calc.j0 k a0 a1 a2 true))) = some (r1, r2) := by rw [if_pos rfl] at H; exact H
      clear H
      have H := H1
      clear H1
      replace H := Option.bind_eq_some_iff.mp H
      obtain ⟨t138, A70, H⟩ := H
      replace H : (if t138 = true then ((impl_ValOk.f a2).bind fun t139 => (impl_Calc.j0 k a0 a1 a2 (!t139))) else (impl_Calc.j0 k a0 a1 a2 true)) = some (r1, r2) := H
      have A7 := Aside0.mk A70
      clear A70
      by_cases c8 : t138 = true
      · subst c8
        have H1 : ((impl_ValOk.f a2).bind fun t139 => (impl_Calc.j0 k a0 a1 a2 (!t139))) = some (r1, r2) := by rw [if_pos rfl] at H; exact H
        clear H
        have H := H1
        clear H1
        replace H := Option.bind_eq_some_iff.mp H
        obtain ⟨t139, A90, H⟩ := H
        replace H : (impl_Calc.j0 k a0 a1 a2 (!t139)) = some (r1, r2) := H
        have A9 := Aside0.mk A90
        clear A90
        have H' := Aside0.mk H
        clear H
        go_wp2_with (first | ((with_reducible refine gate_callee (f := 66) rfl ?_); refine goesL_ (some 10) rfl rfl Try.func66 (by kernel_rfl) rfl #[.int .i64 a0, .int .i64 1, .int .i64 9] rfl Mp_ ?_; (with_reducible refine (impl_within.calls a0 1 9 true _ A5.out).mono ?_); rintro e w' ⟨rfl, ⟨nd, rfl⟩⟩; refine ⟨_, rfl, ?_⟩) | (go_at_call 47; (with_reducible refine (impl_ValOk.calls a1 true _ A7.out).mono ?_); rintro e w' ⟨rfl, ⟨nd, rfl⟩⟩) | (go_at_call 47; (with_reducible refine (impl_ValOk.calls a2 t139 _ A9.out).mono ?_); rintro e w' ⟨rfl, ⟨nd, rfl⟩⟩))
        go_meet
        case rel => exact ⟨_, (!t139), (by first | rfl | (simp; done) | (simp [*]; done)), H', ⟨by first | omega | exact Nat.le_refl _⟩, by repeat (first | exact Drawn0.refl _ | apply Drawn0.step)⟩
      · replace c8 := Bool.eq_false_iff.mpr c8
        subst c8
        have H1 : (impl_Calc.j0 k a0 a1 a2 true) = some (r1, r2) := by rw [if_neg (show ¬ (false = true) by decide)] at H; exact H
        clear H
        have H := H1
        clear H1
        have H' := Aside0.mk H
        clear H
        go_wp2_with (first | ((with_reducible refine gate_callee (f := 66) rfl ?_); refine goesL_ (some 10) rfl rfl Try.func66 (by kernel_rfl) rfl #[.int .i64 a0, .int .i64 1, .int .i64 9] rfl Mp_ ?_; (with_reducible refine (impl_within.calls a0 1 9 true _ A5.out).mono ?_); rintro e w' ⟨rfl, ⟨nd, rfl⟩⟩; refine ⟨_, rfl, ?_⟩) | (go_at_call 47; (with_reducible refine (impl_ValOk.calls a1 false _ A7.out).mono ?_); rintro e w' ⟨rfl, ⟨nd, rfl⟩⟩))
        go_meet
        case rel => exact ⟨_, (true), (by first | rfl | (simp; done) | (simp [*]; done)), H', ⟨by first | omega | exact Nat.le_refl _⟩, by repeat (first | exact Drawn0.refl _ | apply Drawn0.step)⟩
    · replace c6 := Bool.eq_false_iff.mpr c6
      subst c6
      have H1 : (impl_Calc.j0 k a0 a1 a2 true) = some (r1, r2) := by rw [if_neg (show ¬ (false = true) by decide)] at H; exact H
      clear H
      have H := H1
      clear H1
      have H' := Aside0.mk H
      clear H
      go_wp2_with (first | ((with_reducible refine gate_callee (f := 66) rfl ?_); refine goesL_ (some 10) rfl rfl Try.func66 (by kernel_rfl) rfl #[.int .i64 a0, .int .i64 1, .int .i64 9] rfl Mp_ ?_; (with_reducible refine (impl_within.calls a0 1 9 false _ A5.out).mono ?_); rintro e w' ⟨rfl, ⟨nd, rfl⟩⟩; refine ⟨_, rfl, ?_⟩))
      go_meet
      case rel => exact ⟨_, (true), (by first | rfl | (simp; done) | (simp [*]; done)), H', ⟨by first | omega | exact Nat.le_refl _⟩, by repeat (first | exact Drawn0.refl _ | apply Drawn0.step)⟩
  case rest =>
    clear HC4
    try clear p2
    try clear c3
    try clear c6
    try clear c8
    obtain ⟨kq, x21_3, rfl, HA, HJ3, ⟨mc3, rfl⟩⟩ := hcut
    cases kq with
    | zero => exact absurd HA.out (by simp [impl_Calc.j0])
    | succ kj3 =>
      have H := HA.out
      clear HA
      simp only [impl_Calc.j0] at H
      by_cases c10 : x21_3 = true
      · subst c10
        have H1 : (some (0, 1)) = some (r1, r2) := by rw [if_pos rfl] at H; exact H
        clear H
        have H := H1
        clear H1
        simp only [Option.some.injEq, Prod.mk.injEq] at H
        obtain ⟨rfl, rfl⟩ := H
        go_wp2
        go_ret2
        exact ⟨by first | rfl | (simp; done) | (simp [*]; done), by repeat (first | exact Drawn0.refl _ | apply Drawn0.step)⟩
      · replace c10 := Bool.eq_false_iff.mpr c10
        subst c10
        have H1 : (if a2 = 0 then (if a0 = 4 then (impl_Calc.j1 kj3 a0 a1 a2 true) else (impl_Calc.j1 kj3 a0 a1 a2 (a0 == 5))) else (impl_Calc.j1 kj3 a0 a1 a2 false)) = some (r1, r2) := by rw [if_neg (show ¬ (false = true) by decide)] at H; exact H
        clear H
        have H := H1
        clear H1
        have HC11 := Aside0.mk H
        clear H
        go_upto_region 3 with (fail)
        go_cut [31] (fun v31 wc => ∃ (kq : Nat) (x31_10 : Bool), v31 = .bool x31_10 ∧ Aside0 (impl_Calc.j1 kq a0 a1 a2 x31_10 = some (r1, r2)) ∧ Aside0 (kq ≤ kj3) ∧ Drawn0 w wc)
        case first =>
          have H := HC11.out
          clear HC11
          by_cases c12 : a2 = 0
          · rw [if_pos c12] at H
            have c12b0 : (a2 == 0) = true := beq_iff_eq.mpr c12
            have c12b1 : (a2 != 0) = false := bne_eq_false_iff_eq.mpr c12
            clear c12
            (first | rw [c12b0] | (simp only [i64_w, i32_w]; rw [c12b0]) | skip)
            by_cases c13 : a0 = 4
            · rw [if_pos c13] at H
              have c13b0 : (a0 == 4) = true := beq_iff_eq.mpr c13
              have c13b1 : (a0 != 4) = false := bne_eq_false_iff_eq.mpr c13
              clear c13
              have H' := Aside0.mk H
              clear H
              go_wp2
              go_meet
              case rel => exact ⟨_, (true), (by first | rfl | (simp; done) | (simp [*]; done)), H', ⟨by have := HJ3.out; first | omega | exact Nat.le_refl _⟩, by repeat (first | exact Drawn0.refl _ | apply Drawn0.step)⟩
            · rw [if_neg c13] at H
              have c13b0 : (a0 == 4) = false := beq_eq_false_iff_ne.mpr c13
              have c13b1 : (a0 != 4) = true := bne_iff_ne.mpr c13
              have H' := Aside0.mk H
              clear H
              go_wp2
              go_meet
              case rel => exact ⟨_, ((a0 == 5)), (by first | rfl | (simp; done) | (simp [*]; done)), H', ⟨by have := HJ3.out; first | omega | exact Nat.le_refl _⟩, by repeat (first | exact Drawn0.refl _ | apply Drawn0.step)⟩
          · rw [if_neg c12] at H
            have c12b0 : (a2 == 0) = false := beq_eq_false_iff_ne.mpr c12
            have c12b1 : (a2 != 0) = true := bne_iff_ne.mpr c12
            (first | rw [c12b0] | (simp only [i64_w, i32_w]; rw [c12b0]) | skip)
            have H' := Aside0.mk H
            clear H
            go_wp2
            go_meet
            case rel => exact ⟨_, (false), (by first | rfl | (simp; done) | (simp [*]; done)), H', ⟨by have := HJ3.out; first | omega | exact Nat.le_refl _⟩, by repeat (first | exact Drawn0.refl _ | apply Drawn0.step)⟩
        case rest =>
          clear HC11
          try clear c1
          try clear p2
          try clear c3
          try clear c6
          try clear c8
          try clear c10
          try clear c12
          try clear c12b0
          try clear c12b1
          try clear c13
          try clear c13b0
          try clear c13b1
          try clear p2
          obtain ⟨kq, x31_10, rfl, HA, HJ10, ⟨mc10, rfl⟩⟩ := hcut
          cases kq with
          | zero => exact absurd HA.out (by simp [impl_Calc.j1])
          | succ kj10 =>
            have H := HA.out
            clear HA
            simp only [impl_Calc.j1] at H
            by_cases c14 : x31_10 = true
            · subst c14
              have H1 : (some (0, 2)) = some (r1, r2) := by rw [if_pos rfl] at H; exact H
              clear H
              have H := H1
              clear H1
              simp only [Option.some.injEq, Prod.mk.injEq] at H
              obtain ⟨rfl, rfl⟩ := H
              go_wp2
              go_ret2
              exact ⟨by first | rfl | (simp; done) | (simp [*]; done), by repeat (first | exact Drawn0.refl _ | apply Drawn0.step)⟩
            · replace c14 := Bool.eq_false_iff.mpr c14
              subst c14
              have H1 : (if a0 = 1 then ((impl_ValOk.f (wrap64 (a1 + a2))).bind fun t140 => (if t140 = true then (some (wrap64 (a1 + a2), 0)) else (some (0, 1)))) else (if a0 = 2 then ((impl_ValOk.f (wrap64 (a1 - a2))).bind fun t141 => (if t141 = true then (some (wrap64 (a1 - a2), 0)) else (some (0, 1)))) else (if a0 = 3 then ((impl_ValOk.f (wrap64 (a1 * a2))).bind fun t142 => (if t142 = true then (some (wrap64 (a1 * a2), 0)) else (some (0, 1)))) else (if a0 = 4 then (if a2 = 0 then (none) else ((impl_ValOk.f (wrap64 (Int.tdiv a1 a2))).bind fun t143 => (if t143 = true then (some (wrap64 (Int.tdiv a1 a2), 0)) else (some (0, 1))))) else (if a0 = 5 then (if a2 = 0 then (none) else ((impl_ValOk.f (Int.tmod a1 a2)).bind fun t144 => (if t144 = true then (some (Int.tmod a1 a2, 0)) else (some (0, 1))))) else (if a0 = 6 then ((impl_truth.f (decide (a1 < a2))).bind fun t145 => ((impl_ValOk.f t145).bind fun t146 => (if t146 = true then (some (t145, 0)) else (some (0, 1))))) else (if a0 = 7 then ((impl_truth.f (a1 == a2)).bind fun t147 => ((impl_ValOk.f t147).bind fun t148 => (if t148 = true then (some (t147, 0)) else (some (0, 1))))) else (if a0 = 8 then (if a1 = 0 then ((impl_truth.f false).bind fun t149 => ((impl_ValOk.f t149).bind fun t150 => (if t150 = true then (some (t149, 0)) else (some (0, 1))))) else ((impl_truth.f (a2 != 0)).bind fun t151 => ((impl_ValOk.f t151).bind fun t152 => (if t152 = true then (some (t151, 0)) else (some (0, 1)))))) else (if a0 = 9 then (if a1 = 0 then ((impl_truth.f (a2 != 0)).bind fun t153 => ((impl_ValOk.f t153).bind fun t154 => (if t154 = true then (some (t153, 0)) else (some (0, 1))))) else ((impl_truth.f true).bind fun t155 => ((impl_ValOk.f t155).bind fun t156 => (if t156 = true then (some (t155, 0)) else (some (0, 1)))))) else ((impl_ValOk.f 0).bind fun t157 => (if t157 = true then (some (0, 0)) else (some (0, 1))))))))))))) = some (r1, r2) := by rw [if_neg (show ¬ (false = true) by decide)] at H; exact H
              clear H
              have H := H1
              clear H1
              by_cases c15 : a0 = 1
              · rw [if_pos c15] at H
                have c15b0 : (a0 == 1) = true := beq_iff_eq.mpr c15
                have c15b1 : (a0 != 1) = false := bne_eq_false_iff_eq.mpr c15
                clear c15
                replace H := Option.bind_eq_some_iff.mp H
                obtain ⟨t140, A160, H⟩ := H
                replace H : (if t140 = true then (some (wrap64 (a1 + a2), 0)) else (some (0, 1))) = some (r1, r2) := H
                have A16 := Aside0.mk A160
                clear A160
                by_cases c17 : t140 = true
                · subst c17
                  have H1 : (some (wrap64 (a1 + a2), 0)) = some (r1, r2) := by rw [if_pos rfl] at H; exact H
                  clear H
                  have H := H1
                  clear H1
                  simp only [Option.some.injEq, Prod.mk.injEq] at H
                  obtain ⟨rfl, rfl⟩ := H
                  go_wp2_with (first | ((with_reducible refine gate_callee (f := 47) rfl ?_); refine goesL_ (some 89) rfl rfl Try.func47 (by kernel_rfl) rfl #[.int .i64 (wrap64 (a1 + a2))] rfl Mp_ ?_; (with_reducible refine (impl_ValOk.calls (wrap64 (a1 + a2)) true _ A16.out).mono ?_); rintro e w' ⟨rfl, ⟨nd, rfl⟩⟩; refine ⟨_, rfl, ?_⟩))
                  go_ret2
                  exact ⟨by first | rfl | (simp; done) | (simp [*]; done), by repeat (first | exact Drawn0.refl _ | apply Drawn0.step)⟩
                · replace c17 := Bool.eq_false_iff.mpr c17
                  subst c17
                  have H1 : (some (0, 1)) = some (r1, r2) := by rw [if_neg (show ¬ (false = true) by decide)] at H; exact H
                  clear H
                  have H := H1
                  clear H1
                  simp only [Option.some.injEq, Prod.mk.injEq] at H
                  obtain ⟨rfl, rfl⟩ := H
                  go_wp2_with (first | ((with_reducible refine gate_callee (f := 47) rfl ?_); refine goesL_ (some 89) rfl rfl Try.func47 (by kernel_rfl) rfl #[.int .i64 (wrap64 (a1 + a2))] rfl Mp_ ?_; (with_reducible refine (impl_ValOk.calls (wrap64 (a1 + a2)) false _ A16.out).mono ?_); rintro e w' ⟨rfl, ⟨nd, rfl⟩⟩; refine ⟨_, rfl, ?_⟩))
                  go_ret2
                  exact ⟨by first | rfl | (simp; done) | (simp [*]; done), by repeat (first | exact Drawn0.refl _ | apply Drawn0.step)⟩
              · rw [if_neg c15] at H
                have c15b0 : (a0 == 1) = false := beq_eq_false_iff_ne.mpr c15
                have c15b1 : (a0 != 1) = true := bne_iff_ne.mpr c15
                by_cases c18 : a0 = 2
                · rw [if_pos c18] at H
                  have c18b0 : (a0 == 2) = true := beq_iff_eq.mpr c18
                  have c18b1 : (a0 != 2) = false := bne_eq_false_iff_eq.mpr c18
                  clear c18
                  replace H := Option.bind_eq_some_iff.mp H
                  obtain ⟨t141, A190, H⟩ := H
                  replace H : (if t141 = true then (some (wrap64 (a1 - a2), 0)) else (some (0, 1))) = some (r1, r2) := H
                  have A19 := Aside0.mk A190
                  clear A190
                  by_cases c20 : t141 = true
                  · subst c20
                    have H1 : (some (wrap64 (a1 - a2), 0)) = some (r1, r2) := by rw [if_pos rfl] at H; exact H
                    clear H
                    have H := H1
                    clear H1
                    simp only [Option.some.injEq, Prod.mk.injEq] at H
                    obtain ⟨rfl, rfl⟩ := H
                    go_wp2_with (first | ((with_reducible refine gate_callee (f := 47) rfl ?_); refine goesL_ (some 89) rfl rfl Try.func47 (by kernel_rfl) rfl #[.int .i64 (wrap64 (a1 - a2))] rfl Mp_ ?_; (with_reducible refine (impl_ValOk.calls (wrap64 (a1 - a2)) true _ A19.out).mono ?_); rintro e w' ⟨rfl, ⟨nd, rfl⟩⟩; refine ⟨_, rfl, ?_⟩))
                    go_ret2
                    exact ⟨by first | rfl | (simp; done) | (simp [*]; done), by repeat (first | exact Drawn0.refl _ | apply Drawn0.step)⟩
                  · replace c20 := Bool.eq_false_iff.mpr c20
                    subst c20
                    have H1 : (some (0, 1)) = some (r1, r2) := by rw [if_neg (show ¬ (false = true) by decide)] at H; exact H
                    clear H
                    have H := H1
                    clear H1
                    simp only [Option.some.injEq, Prod.mk.injEq] at H
                    obtain ⟨rfl, rfl⟩ := H
                    go_wp2_with (first | ((with_reducible refine gate_callee (f := 47) rfl ?_); refine goesL_ (some 89) rfl rfl Try.func47 (by kernel_rfl) rfl #[.int .i64 (wrap64 (a1 - a2))] rfl Mp_ ?_; (with_reducible refine (impl_ValOk.calls (wrap64 (a1 - a2)) false _ A19.out).mono ?_); rintro e w' ⟨rfl, ⟨nd, rfl⟩⟩; refine ⟨_, rfl, ?_⟩))
                    go_ret2
                    exact ⟨by first | rfl | (simp; done) | (simp [*]; done), by repeat (first | exact Drawn0.refl _ | apply Drawn0.step)⟩
                · rw [if_neg c18] at H
                  have c18b0 : (a0 == 2) = false := beq_eq_false_iff_ne.mpr c18
                  have c18b1 : (a0 != 2) = true := bne_iff_ne.mpr c18
                  by_cases c21 : a0 = 3
                  · rw [if_pos c21] at H
                    have c21b0 : (a0 == 3) = true := beq_iff_eq.mpr c21
                    have c21b1 : (a0 != 3) = false := bne_eq_false_iff_eq.mpr c21
                    clear c21
                    replace H := Option.bind_eq_some_iff.mp H
                    obtain ⟨t142, A220, H⟩ := H
                    replace H : (if t142 = true then (some (wrap64 (a1 * a2), 0)) else (some (0, 1))) = some (r1, r2) := H
                    have A22 := Aside0.mk A220
                    clear A220
                    by_cases c23 : t142 = true
                    · subst c23
                      have H1 : (some (wrap64 (a1 * a2), 0)) = some (r1, r2) := by rw [if_pos rfl] at H; exact H
                      clear H
                      have H := H1
                      clear H1
                      simp only [Option.some.injEq, Prod.mk.injEq] at H
                      obtain ⟨rfl, rfl⟩ := H
                      go_wp2_with (first | ((with_reducible refine gate_callee (f := 47) rfl ?_); refine goesL_ (some 89) rfl rfl Try.func47 (by kernel_rfl) rfl #[.int .i64 (wrap64 (a1 * a2))] rfl Mp_ ?_; (with_reducible refine (impl_ValOk.calls (wrap64 (a1 * a2)) true _ A22.out).mono ?_); rintro e w' ⟨rfl, ⟨nd, rfl⟩⟩; refine ⟨_, rfl, ?_⟩))
                      go_ret2
                      exact ⟨by first | rfl | (simp; done) | (simp [*]; done), by repeat (first | exact Drawn0.refl _ | apply Drawn0.step)⟩
                    · replace c23 := Bool.eq_false_iff.mpr c23
                      subst c23
                      have H1 : (some (0, 1)) = some (r1, r2) := by rw [if_neg (show ¬ (false = true) by decide)] at H; exact H
                      clear H
                      have H := H1
                      clear H1
                      simp only [Option.some.injEq, Prod.mk.injEq] at H
                      obtain ⟨rfl, rfl⟩ := H
                      go_wp2_with (first | ((with_reducible refine gate_callee (f := 47) rfl ?_); refine goesL_ (some 89) rfl rfl Try.func47 (by kernel_rfl) rfl #[.int .i64 (wrap64 (a1 * a2))] rfl Mp_ ?_; (with_reducible refine (impl_ValOk.calls (wrap64 (a1 * a2)) false _ A22.out).mono ?_); rintro e w' ⟨rfl, ⟨nd, rfl⟩⟩; refine ⟨_, rfl, ?_⟩))
                      go_ret2
                      exact ⟨by first | rfl | (simp; done) | (simp [*]; done), by repeat (first | exact Drawn0.refl _ | apply Drawn0.step)⟩
                  · rw [if_neg c21] at H
                    have c21b0 : (a0 == 3) = false := beq_eq_false_iff_ne.mpr c21
                    have c21b1 : (a0 != 3) = true := bne_iff_ne.mpr c21
                    by_cases c24 : a0 = 4
                    · rw [if_pos c24] at H
                      have c24b0 : (a0 == 4) = true := beq_iff_eq.mpr c24
                      have c24b1 : (a0 != 4) = false := bne_eq_false_iff_eq.mpr c24
                      clear c24
                      by_cases c25 : a2 = 0
                      · rw [if_pos c25] at H
                        exact absurd H (by simp)
                      · rw [if_neg c25] at H
                        have c25b0 : (a2 == 0) = false := beq_eq_false_iff_ne.mpr c25
                        have c25b1 : (a2 != 0) = true := bne_iff_ne.mpr c25
                        replace H := Option.bind_eq_some_iff.mp H
                        obtain ⟨t143, A260, H⟩ := H
                        replace H : (if t143 = true then (some (wrap64 (Int.tdiv a1 a2), 0)) else (some (0, 1))) = some (r1, r2) := H
                        have A26 := Aside0.mk A260
                        clear A260
                        by_cases c27 : t143 = true
                        · subst c27
                          have H1 : (some (wrap64 (Int.tdiv a1 a2), 0)) = some (r1, r2) := by rw [if_pos rfl] at H; exact H
                          clear H
                          have H := H1
                          clear H1
                          simp only [Option.some.injEq, Prod.mk.injEq] at H
                          obtain ⟨rfl, rfl⟩ := H
                          go_wp2_with (first | ((with_reducible refine gate_callee (f := 47) rfl ?_); refine goesL_ (some 89) rfl rfl Try.func47 (by kernel_rfl) rfl #[.int .i64 (wrap64 (Int.tdiv a1 a2))] rfl Mp_ ?_; (with_reducible refine (impl_ValOk.calls (wrap64 (Int.tdiv a1 a2)) true _ A26.out).mono ?_); rintro e w' ⟨rfl, ⟨nd, rfl⟩⟩; refine ⟨_, rfl, ?_⟩))
                          go_ret2
                          exact ⟨by first | rfl | (simp; done) | (simp [*]; done), by repeat (first | exact Drawn0.refl _ | apply Drawn0.step)⟩
                        · replace c27 := Bool.eq_false_iff.mpr c27
                          subst c27
                          have H1 : (some (0, 1)) = some (r1, r2) := by rw [if_neg (show ¬ (false = true) by decide)] at H; exact H
                          clear H
                          have H := H1
                          clear H1
                          simp only [Option.some.injEq, Prod.mk.injEq] at H
                          obtain ⟨rfl, rfl⟩ := H
                          go_wp2_with (first | ((with_reducible refine gate_callee (f := 47) rfl ?_); refine goesL_ (some 89) rfl rfl Try.func47 (by kernel_rfl) rfl #[.int .i64 (wrap64 (Int.tdiv a1 a2))] rfl Mp_ ?_; (with_reducible refine (impl_ValOk.calls (wrap64 (Int.tdiv a1 a2)) false _ A26.out).mono ?_); rintro e w' ⟨rfl, ⟨nd, rfl⟩⟩; refine ⟨_, rfl, ?_⟩))
                          go_ret2
                          exact ⟨by first | rfl | (simp; done) | (simp [*]; done), by repeat (first | exact Drawn0.refl _ | apply Drawn0.step)⟩
                    · rw [if_neg c24] at H
                      have c24b0 : (a0 == 4) = false := beq_eq_false_iff_ne.mpr c24
                      have c24b1 : (a0 != 4) = true := bne_iff_ne.mpr c24
                      by_cases c28 : a0 = 5
                      · rw [if_pos c28] at H
                        have c28b0 : (a0 == 5) = true := beq_iff_eq.mpr c28
                        have c28b1 : (a0 != 5) = false := bne_eq_false_iff_eq.mpr c28
                        clear c28
                        by_cases c29 : a2 = 0
                        · rw [if_pos c29] at H
                          exact absurd H (by simp)
                        · rw [if_neg c29] at H
                          have c29b0 : (a2 == 0) = false := beq_eq_false_iff_ne.mpr c29
                          have c29b1 : (a2 != 0) = true := bne_iff_ne.mpr c29
                          replace H := Option.bind_eq_some_iff.mp H
                          obtain ⟨t144, A300, H⟩ := H
                          replace H : (if t144 = true then (some (Int.tmod a1 a2, 0)) else (some (0, 1))) = some (r1, r2) := H
                          have A30 := Aside0.mk A300
                          clear A300
                          by_cases c31 : t144 = true
                          · subst c31
                            have H1 : (some (Int.tmod a1 a2, 0)) = some (r1, r2) := by rw [if_pos rfl] at H; exact H
                            clear H
                            have H := H1
                            clear H1
                            simp only [Option.some.injEq, Prod.mk.injEq] at H
                            obtain ⟨rfl, rfl⟩ := H
                            go_wp2_with (first | ((with_reducible refine gate_callee (f := 47) rfl ?_); refine goesL_ (some 89) rfl rfl Try.func47 (by kernel_rfl) rfl #[.int .i64 (Int.tmod a1 a2)] rfl Mp_ ?_; (with_reducible refine (impl_ValOk.calls (Int.tmod a1 a2) true _ A30.out).mono ?_); rintro e w' ⟨rfl, ⟨nd, rfl⟩⟩; refine ⟨_, rfl, ?_⟩))
                            go_ret2
                            exact ⟨by first | rfl | (simp; done) | (simp [*]; done), by repeat (first | exact Drawn0.refl _ | apply Drawn0.step)⟩
                          · replace c31 := Bool.eq_false_iff.mpr c31
                            subst c31
                            have H1 : (some (0, 1)) = some (r1, r2) := by rw [if_neg (show ¬ (false = true) by decide)] at H; exact H
                            clear H
                            have H := H1
                            clear H1
                            simp only [Option.some.injEq, Prod.mk.injEq] at H
                            obtain ⟨rfl, rfl⟩ := H
                            go_wp2_with (first | ((with_reducible refine gate_callee (f := 47) rfl ?_); refine goesL_ (some 89) rfl rfl Try.func47 (by kernel_rfl) rfl #[.int .i64 (Int.tmod a1 a2)] rfl Mp_ ?_; (with_reducible refine (impl_ValOk.calls (Int.tmod a1 a2) false _ A30.out).mono ?_); rintro e w' ⟨rfl, ⟨nd, rfl⟩⟩; refine ⟨_, rfl, ?_⟩))
                            go_ret2
                            exact ⟨by first | rfl | (simp; done) | (simp [*]; done), by repeat (first | exact Drawn0.refl _ | apply Drawn0.step)⟩
                      · rw [if_neg c28] at H
                        have c28b0 : (a0 == 5) = false := beq_eq_false_iff_ne.mpr c28
                        have c28b1 : (a0 != 5) = true := bne_iff_ne.mpr c28
                        by_cases c32 : a0 = 6
                        · rw [if_pos c32] at H
                          have c32b0 : (a0 == 6) = true := beq_iff_eq.mpr c32
                          have c32b1 : (a0 != 6) = false := bne_eq_false_iff_eq.mpr c32
                          clear c32
                          replace H := Option.bind_eq_some_iff.mp H
                          obtain ⟨t145, A330, H⟩ := H
                          replace H : ((impl_ValOk.f t145).bind fun t146 => (if t146 = true then (some (t145, 0)) else (some (0, 1)))) = some (r1, r2) := H
                          have A33 := Aside0.mk A330
                          clear A330
                          replace H := Option.bind_eq_some_iff.mp H
                          obtain ⟨t146, A340, H⟩ := H
                          replace H : (if t146 = true then (some (t145, 0)) else (some (0, 1))) = some (r1, r2) := H
                          have A34 := Aside0.mk A340
                          clear A340
                          by_cases c35 : t146 = true
                          · subst c35
                            have H1 : (some (t145, 0)) = some (r1, r2) := by rw [if_pos rfl] at H; exact H
                            clear H
                            have H := H1
                            clear H1
                            simp only [Option.some.injEq, Prod.mk.injEq] at H
                            obtain ⟨rfl, rfl⟩ := H
                            go_wp2_with (first | ((with_reducible refine gate_callee (f := 75) rfl ?_); refine goesL_ (some 63) rfl rfl Try.func75 (by kernel_rfl) rfl #[.bool (decide (a1 < a2))] rfl Mp_ ?_; (with_reducible refine (impl_truth.calls (decide (a1 < a2)) t145 _ A33.out).mono ?_); rintro e w' ⟨rfl, ⟨nd, rfl⟩⟩; refine ⟨_, rfl, ?_⟩) | ((with_reducible refine gate_callee (f := 47) rfl ?_); refine goesL_ (some 89) rfl rfl Try.func47 (by kernel_rfl) rfl #[.int .i64 t145] rfl Mp_ ?_; (with_reducible refine (impl_ValOk.calls t145 true _ A34.out).mono ?_); rintro e w' ⟨rfl, ⟨nd, rfl⟩⟩; refine ⟨_, rfl, ?_⟩))
                            go_ret2
                            exact ⟨by first | rfl | (simp; done) | (simp [*]; done), by repeat (first | exact Drawn0.refl _ | apply Drawn0.step)⟩
                          · replace c35 := Bool.eq_false_iff.mpr c35
                            subst c35
                            have H1 : (some (0, 1)) = some (r1, r2) := by rw [if_neg (show ¬ (false = true) by decide)] at H; exact H
                            clear H
                            have H := H1
                            clear H1
                            simp only [Option.some.injEq, Prod.mk.injEq] at H
                            obtain ⟨rfl, rfl⟩ := H
                            go_wp2_with (first | ((with_reducible refine gate_callee (f := 75) rfl ?_); refine goesL_ (some 63) rfl rfl Try.func75 (by kernel_rfl) rfl #[.bool (decide (a1 < a2))] rfl Mp_ ?_; (with_reducible refine (impl_truth.calls (decide (a1 < a2)) t145 _ A33.out).mono ?_); rintro e w' ⟨rfl, ⟨nd, rfl⟩⟩; refine ⟨_, rfl, ?_⟩) | ((with_reducible refine gate_callee (f := 47) rfl ?_); refine goesL_ (some 89) rfl rfl Try.func47 (by kernel_rfl) rfl #[.int .i64 t145] rfl Mp_ ?_; (with_reducible refine (impl_ValOk.calls t145 false _ A34.out).mono ?_); rintro e w' ⟨rfl, ⟨nd, rfl⟩⟩; refine ⟨_, rfl, ?_⟩))
                            go_ret2
                            exact ⟨by first | rfl | (simp; done) | (simp [*]; done), by repeat (first | exact Drawn0.refl _ | apply Drawn0.step)⟩
                        · rw [if_neg c32] at H
                          have c32b0 : (a0 == 6) = false := beq_eq_false_iff_ne.mpr c32
                          have c32b1 : (a0 != 6) = true := bne_iff_ne.mpr c32
                          by_cases c36 : a0 = 7
                          · rw [if_pos c36] at H
                            have c36b0 : (a0 == 7) = true := beq_iff_eq.mpr c36
                            have c36b1 : (a0 != 7) = false := bne_eq_false_iff_eq.mpr c36
                            clear c36
                            replace H := Option.bind_eq_some_iff.mp H
                            obtain ⟨t147, A370, H⟩ := H
                            replace H : ((impl_ValOk.f t147).bind fun t148 => (if t148 = true then (some (t147, 0)) else (some (0, 1)))) = some (r1, r2) := H
                            have A37 := Aside0.mk A370
                            clear A370
                            replace H := Option.bind_eq_some_iff.mp H
                            obtain ⟨t148, A380, H⟩ := H
                            replace H : (if t148 = true then (some (t147, 0)) else (some (0, 1))) = some (r1, r2) := H
                            have A38 := Aside0.mk A380
                            clear A380
                            by_cases c39 : t148 = true
                            · subst c39
                              have H1 : (some (t147, 0)) = some (r1, r2) := by rw [if_pos rfl] at H; exact H
                              clear H
                              have H := H1
                              clear H1
                              simp only [Option.some.injEq, Prod.mk.injEq] at H
                              obtain ⟨rfl, rfl⟩ := H
                              go_wp2_with (first | ((with_reducible refine gate_callee (f := 75) rfl ?_); refine goesL_ (some 69) rfl rfl Try.func75 (by kernel_rfl) rfl #[.bool (a1 == a2)] rfl Mp_ ?_; (with_reducible refine (impl_truth.calls (a1 == a2) t147 _ A37.out).mono ?_); rintro e w' ⟨rfl, ⟨nd, rfl⟩⟩; refine ⟨_, rfl, ?_⟩) | ((with_reducible refine gate_callee (f := 47) rfl ?_); refine goesL_ (some 89) rfl rfl Try.func47 (by kernel_rfl) rfl #[.int .i64 t147] rfl Mp_ ?_; (with_reducible refine (impl_ValOk.calls t147 true _ A38.out).mono ?_); rintro e w' ⟨rfl, ⟨nd, rfl⟩⟩; refine ⟨_, rfl, ?_⟩))
                              go_ret2
                              exact ⟨by first | rfl | (simp; done) | (simp [*]; done), by repeat (first | exact Drawn0.refl _ | apply Drawn0.step)⟩
                            · replace c39 := Bool.eq_false_iff.mpr c39
                              subst c39
                              have H1 : (some (0, 1)) = some (r1, r2) := by rw [if_neg (show ¬ (false = true) by decide)] at H; exact H
                              clear H
                              have H := H1
                              clear H1
                              simp only [Option.some.injEq, Prod.mk.injEq] at H
                              obtain ⟨rfl, rfl⟩ := H
                              go_wp2_with (first | ((with_reducible refine gate_callee (f := 75) rfl ?_); refine goesL_ (some 69) rfl rfl Try.func75 (by kernel_rfl) rfl #[.bool (a1 == a2)] rfl Mp_ ?_; (with_reducible refine (impl_truth.calls (a1 == a2) t147 _ A37.out).mono ?_); rintro e w' ⟨rfl, ⟨nd, rfl⟩⟩; refine ⟨_, rfl, ?_⟩) | ((with_reducible refine gate_callee (f := 47) rfl ?_); refine goesL_ (some 89) rfl rfl Try.func47 (by kernel_rfl) rfl #[.int .i64 t147] rfl Mp_ ?_; (with_reducible refine (impl_ValOk.calls t147 false _ A38.out).mono ?_); rintro e w' ⟨rfl, ⟨nd, rfl⟩⟩; refine ⟨_, rfl, ?_⟩))
                              go_ret2
                              exact ⟨by first | rfl | (simp; done) | (simp [*]; done), by repeat (first | exact Drawn0.refl _ | apply Drawn0.step)⟩
                          · rw [if_neg c36] at H
                            have c36b0 : (a0 == 7) = false := beq_eq_false_iff_ne.mpr c36
                            have c36b1 : (a0 != 7) = true := bne_iff_ne.mpr c36
                            by_cases c40 : a0 = 8
                            · rw [if_pos c40] at H
                              have c40b0 : (a0 == 8) = true := beq_iff_eq.mpr c40
                              have c40b1 : (a0 != 8) = false := bne_eq_false_iff_eq.mpr c40
                              clear c40
                              by_cases c41 : a1 = 0
                              · rw [if_pos c41] at H
                                have c41b0 : (a1 == 0) = true := beq_iff_eq.mpr c41
                                have c41b1 : (a1 != 0) = false := bne_eq_false_iff_eq.mpr c41
                                clear c41
                                replace H := Option.bind_eq_some_iff.mp H
                                obtain ⟨t149, A420, H⟩ := H
                                replace H : ((impl_ValOk.f t149).bind fun t150 => (if t150 = true then (some (t149, 0)) else (some (0, 1)))) = some (r1, r2) := H
                                have A42 := Aside0.mk A420
                                clear A420
                                replace H := Option.bind_eq_some_iff.mp H
                                obtain ⟨t150, A430, H⟩ := H
                                replace H : (if t150 = true then (some (t149, 0)) else (some (0, 1))) = some (r1, r2) := H
                                have A43 := Aside0.mk A430
                                clear A430
                                by_cases c44 : t150 = true
                                · subst c44
                                  have H1 : (some (t149, 0)) = some (r1, r2) := by rw [if_pos rfl] at H; exact H
                                  clear H
                                  have H := H1
                                  clear H1
                                  simp only [Option.some.injEq, Prod.mk.injEq] at H
                                  obtain ⟨rfl, rfl⟩ := H
                                  go_wp2_with (first | ((with_reducible refine gate_callee (f := 75) rfl ?_); refine goesL_ (some 78) rfl rfl Try.func75 (by kernel_rfl) rfl #[.bool false] rfl Mp_ ?_; (with_reducible refine (impl_truth.calls false t149 _ A42.out).mono ?_); rintro e w' ⟨rfl, ⟨nd, rfl⟩⟩; refine ⟨_, rfl, ?_⟩) | ((with_reducible refine gate_callee (f := 47) rfl ?_); refine goesL_ (some 89) rfl rfl Try.func47 (by kernel_rfl) rfl #[.int .i64 t149] rfl Mp_ ?_; (with_reducible refine (impl_ValOk.calls t149 true _ A43.out).mono ?_); rintro e w' ⟨rfl, ⟨nd, rfl⟩⟩; refine ⟨_, rfl, ?_⟩))
                                  go_ret2
                                  exact ⟨by first | rfl | (simp; done) | (simp [*]; done), by repeat (first | exact Drawn0.refl _ | apply Drawn0.step)⟩
                                · replace c44 := Bool.eq_false_iff.mpr c44
                                  subst c44
                                  have H1 : (some (0, 1)) = some (r1, r2) := by rw [if_neg (show ¬ (false = true) by decide)] at H; exact H
                                  clear H
                                  have H := H1
                                  clear H1
                                  simp only [Option.some.injEq, Prod.mk.injEq] at H
                                  obtain ⟨rfl, rfl⟩ := H
                                  go_wp2_with (first | ((with_reducible refine gate_callee (f := 75) rfl ?_); refine goesL_ (some 78) rfl rfl Try.func75 (by kernel_rfl) rfl #[.bool false] rfl Mp_ ?_; (with_reducible refine (impl_truth.calls false t149 _ A42.out).mono ?_); rintro e w' ⟨rfl, ⟨nd, rfl⟩⟩; refine ⟨_, rfl, ?_⟩) | ((with_reducible refine gate_callee (f := 47) rfl ?_); refine goesL_ (some 89) rfl rfl Try.func47 (by kernel_rfl) rfl #[.int .i64 t149] rfl Mp_ ?_; (with_reducible refine (impl_ValOk.calls t149 false _ A43.out).mono ?_); rintro e w' ⟨rfl, ⟨nd, rfl⟩⟩; refine ⟨_, rfl, ?_⟩))
                                  go_ret2
                                  exact ⟨by first | rfl | (simp; done) | (simp [*]; done), by repeat (first | exact Drawn0.refl _ | apply Drawn0.step)⟩
                              · rw [if_neg c41] at H
                                have c41b0 : (a1 == 0) = false := beq_eq_false_iff_ne.mpr c41
                                have c41b1 : (a1 != 0) = true := bne_iff_ne.mpr c41
                                replace H := Option.bind_eq_some_iff.mp H
                                obtain ⟨t151, A450, H⟩ := H
                                replace H : ((impl_ValOk.f t151).bind fun t152 => (if t152 = true then (some (t151, 0)) else (some (0, 1)))) = some (r1, r2) := H
                                have A45 := Aside0.mk A450
                                clear A450
                                replace H := Option.bind_eq_some_iff.mp H
                                obtain ⟨t152, A460, H⟩ := H
                                replace H : (if t152 = true then (some (t151, 0)) else (some (0, 1))) = some (r1, r2) := H
                                have A46 := Aside0.mk A460
                                clear A460
                                by_cases c47 : t152 = true
                                · subst c47
                                  have H1 : (some (t151, 0)) = some (r1, r2) := by rw [if_pos rfl] at H; exact H
                                  clear H
                                  have H := H1
                                  clear H1
                                  simp only [Option.some.injEq, Prod.mk.injEq] at H
                                  obtain ⟨rfl, rfl⟩ := H
                                  go_wp2_with (first | ((with_reducible refine gate_callee (f := 75) rfl ?_); refine goesL_ (some 78) rfl rfl Try.func75 (by kernel_rfl) rfl #[.bool (a2 != 0)] rfl Mp_ ?_; (with_reducible refine (impl_truth.calls (a2 != 0) t151 _ A45.out).mono ?_); rintro e w' ⟨rfl, ⟨nd, rfl⟩⟩; refine ⟨_, rfl, ?_⟩) | ((with_reducible refine gate_callee (f := 47) rfl ?_); refine goesL_ (some 89) rfl rfl Try.func47 (by kernel_rfl) rfl #[.int .i64 t151] rfl Mp_ ?_; (with_reducible refine (impl_ValOk.calls t151 true _ A46.out).mono ?_); rintro e w' ⟨rfl, ⟨nd, rfl⟩⟩; refine ⟨_, rfl, ?_⟩))
                                  go_ret2
                                  exact ⟨by first | rfl | (simp; done) | (simp [*]; done), by repeat (first | exact Drawn0.refl _ | apply Drawn0.step)⟩
                                · replace c47 := Bool.eq_false_iff.mpr c47
                                  subst c47
                                  have H1 : (some (0, 1)) = some (r1, r2) := by rw [if_neg (show ¬ (false = true) by decide)] at H; exact H
                                  clear H
                                  have H := H1
                                  clear H1
                                  simp only [Option.some.injEq, Prod.mk.injEq] at H
                                  obtain ⟨rfl, rfl⟩ := H
                                  go_wp2_with (first | ((with_reducible refine gate_callee (f := 75) rfl ?_); refine goesL_ (some 78) rfl rfl Try.func75 (by kernel_rfl) rfl #[.bool (a2 != 0)] rfl Mp_ ?_; (with_reducible refine (impl_truth.calls (a2 != 0) t151 _ A45.out).mono ?_); rintro e w' ⟨rfl, ⟨nd, rfl⟩⟩; refine ⟨_, rfl, ?_⟩) | ((with_reducible refine gate_callee (f := 47) rfl ?_); refine goesL_ (some 89) rfl rfl Try.func47 (by kernel_rfl) rfl #[.int .i64 t151] rfl Mp_ ?_; (with_reducible refine (impl_ValOk.calls t151 false _ A46.out).mono ?_); rintro e w' ⟨rfl, ⟨nd, rfl⟩⟩; refine ⟨_, rfl, ?_⟩))
                                  go_ret2
                                  exact ⟨by first | rfl | (simp; done) | (simp [*]; done), by repeat (first | exact Drawn0.refl _ | apply Drawn0.step)⟩
                            · rw [if_neg c40] at H
                              have c40b0 : (a0 == 8) = false := beq_eq_false_iff_ne.mpr c40
                              have c40b1 : (a0 != 8) = true := bne_iff_ne.mpr c40
                              by_cases c48 : a0 = 9
                              · rw [if_pos c48] at H
                                have c48b0 : (a0 == 9) = true := beq_iff_eq.mpr c48
                                have c48b1 : (a0 != 9) = false := bne_eq_false_iff_eq.mpr c48
                                clear c48
                                by_cases c49 : a1 = 0
                                · rw [if_pos c49] at H
                                  have c49b0 : (a1 == 0) = true := beq_iff_eq.mpr c49
                                  have c49b1 : (a1 != 0) = false := bne_eq_false_iff_eq.mpr c49
                                  clear c49
                                  replace H := Option.bind_eq_some_iff.mp H
                                  obtain ⟨t153, A500, H⟩ := H
                                  replace H : ((impl_ValOk.f t153).bind fun t154 => (if t154 = true then (some (t153, 0)) else (some (0, 1)))) = some (r1, r2) := H
                                  have A50 := Aside0.mk A500
                                  clear A500
                                  replace H := Option.bind_eq_some_iff.mp H
                                  obtain ⟨t154, A510, H⟩ := H
                                  replace H : (if t154 = true then (some (t153, 0)) else (some (0, 1))) = some (r1, r2) := H
                                  have A51 := Aside0.mk A510
                                  clear A510
                                  by_cases c52 : t154 = true
                                  · subst c52
                                    have H1 : (some (t153, 0)) = some (r1, r2) := by rw [if_pos rfl] at H; exact H
                                    clear H
                                    have H := H1
                                    clear H1
                                    simp only [Option.some.injEq, Prod.mk.injEq] at H
                                    obtain ⟨rfl, rfl⟩ := H
                                    go_wp2_with (first | ((with_reducible refine gate_callee (f := 75) rfl ?_); refine goesL_ (some 87) rfl rfl Try.func75 (by kernel_rfl) rfl #[.bool (a2 != 0)] rfl Mp_ ?_; (with_reducible refine (impl_truth.calls (a2 != 0) t153 _ A50.out).mono ?_); rintro e w' ⟨rfl, ⟨nd, rfl⟩⟩; refine ⟨_, rfl, ?_⟩) | ((with_reducible refine gate_callee (f := 47) rfl ?_); refine goesL_ (some 89) rfl rfl Try.func47 (by kernel_rfl) rfl #[.int .i64 t153] rfl Mp_ ?_; (with_reducible refine (impl_ValOk.calls t153 true _ A51.out).mono ?_); rintro e w' ⟨rfl, ⟨nd, rfl⟩⟩; refine ⟨_, rfl, ?_⟩))
                                    go_ret2
                                    exact ⟨by first | rfl | (simp; done) | (simp [*]; done), by repeat (first | exact Drawn0.refl _ | apply Drawn0.step)⟩
                                  · replace c52 := Bool.eq_false_iff.mpr c52
                                    subst c52
                                    have H1 : (some (0, 1)) = some (r1, r2) := by rw [if_neg (show ¬ (false = true) by decide)] at H; exact H
                                    clear H
                                    have H := H1
                                    clear H1
                                    simp only [Option.some.injEq, Prod.mk.injEq] at H
                                    obtain ⟨rfl, rfl⟩ := H
                                    go_wp2_with (first | ((with_reducible refine gate_callee (f := 75) rfl ?_); refine goesL_ (some 87) rfl rfl Try.func75 (by kernel_rfl) rfl #[.bool (a2 != 0)] rfl Mp_ ?_; (with_reducible refine (impl_truth.calls (a2 != 0) t153 _ A50.out).mono ?_); rintro e w' ⟨rfl, ⟨nd, rfl⟩⟩; refine ⟨_, rfl, ?_⟩) | ((with_reducible refine gate_callee (f := 47) rfl ?_); refine goesL_ (some 89) rfl rfl Try.func47 (by kernel_rfl) rfl #[.int .i64 t153] rfl Mp_ ?_; (with_reducible refine (impl_ValOk.calls t153 false _ A51.out).mono ?_); rintro e w' ⟨rfl, ⟨nd, rfl⟩⟩; refine ⟨_, rfl, ?_⟩))
                                    go_ret2
                                    exact ⟨by first | rfl | (simp; done) | (simp [*]; done), by repeat (first | exact Drawn0.refl _ | apply Drawn0.step)⟩
                                · rw [if_neg c49] at H
                                  have c49b0 : (a1 == 0) = false := beq_eq_false_iff_ne.mpr c49
                                  have c49b1 : (a1 != 0) = true := bne_iff_ne.mpr c49
                                  replace H := Option.bind_eq_some_iff.mp H
                                  obtain ⟨t155, A530, H⟩ := H
                                  replace H : ((impl_ValOk.f t155).bind fun t156 => (if t156 = true then (some (t155, 0)) else (some (0, 1)))) = some (r1, r2) := H
                                  have A53 := Aside0.mk A530
                                  clear A530
                                  replace H := Option.bind_eq_some_iff.mp H
                                  obtain ⟨t156, A540, H⟩ := H
                                  replace H : (if t156 = true then (some (t155, 0)) else (some (0, 1))) = some (r1, r2) := H
                                  have A54 := Aside0.mk A540
                                  clear A540
                                  by_cases c55 : t156 = true
                                  · subst c55
                                    have H1 : (some (t155, 0)) = some (r1, r2) := by rw [if_pos rfl] at H; exact H
                                    clear H
                                    have H := H1
                                    clear H1
                                    simp only [Option.some.injEq, Prod.mk.injEq] at H
                                    obtain ⟨rfl, rfl⟩ := H
                                    go_wp2_with (first | ((with_reducible refine gate_callee (f := 75) rfl ?_); refine goesL_ (some 87) rfl rfl Try.func75 (by kernel_rfl) rfl #[.bool true] rfl Mp_ ?_; (with_reducible refine (impl_truth.calls true t155 _ A53.out).mono ?_); rintro e w' ⟨rfl, ⟨nd, rfl⟩⟩; refine ⟨_, rfl, ?_⟩) | ((with_reducible refine gate_callee (f := 47) rfl ?_); refine goesL_ (some 89) rfl rfl Try.func47 (by kernel_rfl) rfl #[.int .i64 t155] rfl Mp_ ?_; (with_reducible refine (impl_ValOk.calls t155 true _ A54.out).mono ?_); rintro e w' ⟨rfl, ⟨nd, rfl⟩⟩; refine ⟨_, rfl, ?_⟩))
                                    go_ret2
                                    exact ⟨by first | rfl | (simp; done) | (simp [*]; done), by repeat (first | exact Drawn0.refl _ | apply Drawn0.step)⟩
                                  · replace c55 := Bool.eq_false_iff.mpr c55
                                    subst c55
                                    have H1 : (some (0, 1)) = some (r1, r2) := by rw [if_neg (show ¬ (false = true) by decide)] at H; exact H
                                    clear H
                                    have H := H1
                                    clear H1
                                    simp only [Option.some.injEq, Prod.mk.injEq] at H
                                    obtain ⟨rfl, rfl⟩ := H
                                    go_wp2_with (first | ((with_reducible refine gate_callee (f := 75) rfl ?_); refine goesL_ (some 87) rfl rfl Try.func75 (by kernel_rfl) rfl #[.bool true] rfl Mp_ ?_; (with_reducible refine (impl_truth.calls true t155 _ A53.out).mono ?_); rintro e w' ⟨rfl, ⟨nd, rfl⟩⟩; refine ⟨_, rfl, ?_⟩) | ((with_reducible refine gate_callee (f := 47) rfl ?_); refine goesL_ (some 89) rfl rfl Try.func47 (by kernel_rfl) rfl #[.int .i64 t155] rfl Mp_ ?_; (with_reducible refine (impl_ValOk.calls t155 false _ A54.out).mono ?_); rintro e w' ⟨rfl, ⟨nd, rfl⟩⟩; refine ⟨_, rfl, ?_⟩))
                                    go_ret2
                                    exact ⟨by first | rfl | (simp; done) | (simp [*]; done), by repeat (first | exact Drawn0.refl _ | apply Drawn0.step)⟩
                              · rw [if_neg c48] at H
                                have c48b0 : (a0 == 9) = false := beq_eq_false_iff_ne.mpr c48
                                have c48b1 : (a0 != 9) = true := bne_iff_ne.mpr c48
                                replace H := Option.bind_eq_some_iff.mp H
                                obtain ⟨t157, A560, H⟩ := H
                                replace H : (if t157 = true then (some (0, 0)) else (some (0, 1))) = some (r1, r2) := H
                                have A56 := Aside0.mk A560
                                clear A560
                                by_cases c57 : t157 = true
                                · subst c57
                                  have H1 : (some (0, 0)) = some (r1, r2) := by rw [if_pos rfl] at H; exact H
                                  clear H
                                  have H := H1
                                  clear H1
                                  simp only [Option.some.injEq, Prod.mk.injEq] at H
                                  obtain ⟨rfl, rfl⟩ := H
                                  go_wp2_with (first | ((with_reducible refine gate_callee (f := 47) rfl ?_); refine goesL_ (some 89) rfl rfl Try.func47 (by kernel_rfl) rfl #[.int .i64 0] rfl Mp_ ?_; (with_reducible refine (impl_ValOk.calls 0 true _ A56.out).mono ?_); rintro e w' ⟨rfl, ⟨nd, rfl⟩⟩; refine ⟨_, rfl, ?_⟩))
                                  go_ret2
                                  exact ⟨by first | rfl | (simp; done) | (simp [*]; done), by repeat (first | exact Drawn0.refl _ | apply Drawn0.step)⟩
                                · replace c57 := Bool.eq_false_iff.mpr c57
                                  subst c57
                                  have H1 : (some (0, 1)) = some (r1, r2) := by rw [if_neg (show ¬ (false = true) by decide)] at H; exact H
                                  clear H
                                  have H := H1
                                  clear H1
                                  simp only [Option.some.injEq, Prod.mk.injEq] at H
                                  obtain ⟨rfl, rfl⟩ := H
                                  go_wp2_with (first | ((with_reducible refine gate_callee (f := 47) rfl ?_); refine goesL_ (some 89) rfl rfl Try.func47 (by kernel_rfl) rfl #[.int .i64 0] rfl Mp_ ?_; (with_reducible refine (impl_ValOk.calls 0 false _ A56.out).mono ?_); rintro e w' ⟨rfl, ⟨nd, rfl⟩⟩; refine ⟨_, rfl, ?_⟩))
                                  go_ret2
                                  exact ⟨by first | rfl | (simp; done) | (simp [*]; done), by repeat (first | exact Drawn0.refl _ | apply Drawn0.step)⟩

end Go.Proofs.Ytfgobagibkbocaa.PFnOrders
