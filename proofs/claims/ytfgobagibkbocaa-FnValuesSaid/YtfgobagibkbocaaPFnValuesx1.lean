/- The machine side of the law FnValues: for each function that it reaches, a Lean function and its contract. Written by a program of this session's over the kit's print. No condition. -/
import Derived.Test.YtfgobagibkbocaaCmp
import Derived.Test.YtfgobagibkbocaaPFnValuesx0
namespace Go.Proofs.Ytfgobagibkbocaa.PFnValues
open Go.RowKit Go.Proofs.YtfgobagibkbocaaW.PrintWords Go.Proofs.YtfgobagibkbocaaW.PrintLast Go.Proofs.YtfgobagibkbocaaW.PrintMore Go.Proofs.Ytfgobagibkbocaa.Cmp
attribute [local go_sem] max2_int min2_int max_two min_two max_three min_three max_four min_four   -- for this text's walks alone
set_option linter.unusedVariables false
set_option linter.unusedSimpArgs false

/-! ### laws_big: function 33 -/
def laws_big.f (l0 : List Int) : Option (Bool) := some (decide ((l0.length : Int) > 1048576))
set_option maxHeartbeats 8000000 in
set_option maxRecDepth 100000 in
theorem laws_big.calls (A0 : Option Addr) (c0 : Nat) (l0 : List Int) (r : Bool) (w : World) (hr0 : Kd.C (Kd.int .u8) w A0 l0.length l0) (hc0 : l0.length ≤ c0) (h : laws_big.f l0 = some r) :
  Calls Try.prog 33 #[.slice A0 l0.length c0] w fun e w' => e = .returned (.bool r) ∧ Drawn0 w w' := by
 have HR0 := Aside0.mk hr0
 have HC0 := Aside0.mk hc0
 clear hr0 hc0
 have H : (some (decide ((l0.length : Int) > 1048576))) = some r := h
 clear h
 obtain rfl := Option.some.inj H
 go_enter Try.func33, Try.ntmps33
 go_wp2
 go_ret
 exact ⟨by first | rfl | (simp; done) | (simp [*]; done), by repeat (first | exact Drawn0.refl _ | apply Drawn0.step)⟩

/-! ### impl_within: function 66 -/
def impl_within.f (a0 : Int) (a1 : Int) (a2 : Int) : Option (Bool) := if a0 ≥ a1 then (some (decide (a0 ≤ a2))) else (some false)
set_option maxHeartbeats 8000000 in
set_option maxRecDepth 100000 in
theorem impl_within.calls (a0 : Int) (a1 : Int) (a2 : Int) (r : Bool) (w : World) (h : impl_within.f a0 a1 a2 = some r) :
  Calls Try.prog 66 #[.int .i64 a0, .int .i64 a1, .int .i64 a2] w fun e w' => e = .returned (.bool r) ∧ Drawn0 w w' := by
 have H : (if a0 ≥ a1 then (some (decide (a0 ≤ a2))) else (some false)) = some r := h
 clear h
 by_cases c4 : a0 ≥ a1
 ·rw [if_pos c4] at H
  have c4b0 : decide (a1 ≤ a0) = true := decide_eq_true c4
  clear c4
  obtain rfl := Option.some.inj H
  go_enter Try.func66, Try.ntmps66
  go_wp2
  go_ret
  exact ⟨by first | rfl | (simp; done) | (simp [*]; done), by repeat (first | exact Drawn0.refl _ | apply Drawn0.step)⟩
 ·rw [if_neg c4] at H
  have c4b0 : decide (a1 ≤ a0) = false := decide_eq_false c4
  clear c4
  obtain rfl := Option.some.inj H
  go_enter Try.func66, Try.ntmps66
  go_wp2
  go_ret
  exact ⟨by first | rfl | (simp; done) | (simp [*]; done), by repeat (first | exact Drawn0.refl _ | apply Drawn0.step)⟩

/-! ### impl_ValOk: function 47 -/
def impl_ValOk.f (a0 : Int) : Option (Bool) := (impl_within.f a0 (-1000000) 1000000).bind fun t101 => (some t101)
set_option maxHeartbeats 8000000 in
set_option maxRecDepth 100000 in
theorem impl_ValOk.calls (a0 : Int) (r : Bool) (w : World) (h : impl_ValOk.f a0 = some r) :
  Calls Try.prog 47 #[.int .i64 a0] w fun e w' => e = .returned (.bool r) ∧ Drawn0 w w' := by
 have H : ((impl_within.f a0 (-1000000) 1000000).bind fun t101 => (some t101)) = some r := h
 clear h
 replace H := Option.bind_eq_some_iff.mp H
 obtain ⟨t101, A20, H⟩ := H
 replace H : (some t101) = some r := H
 have A2 := Aside0.mk A20
 clear A20
 obtain rfl := Option.some.inj H
 go_enter Try.func47, Try.ntmps47
 go_wp2_with (first | ((with_reducible refine gate_callee (f := 66) rfl ?_); refine goesL_ (some 4) rfl rfl Try.func66 (by kernel_rfl) rfl #[.int .i64 a0, .int .i64 (-1000000), .int .i64 1000000] rfl Mp_ ?_; (with_reducible refine (impl_within.calls a0 (-1000000) 1000000 t101 _ A2.out).mono ?_); rintro e w' ⟨rfl, ⟨nd, rfl⟩⟩; refine ⟨_, rfl, ?_⟩))
 go_ret
 exact ⟨by first | rfl | (simp; done) | (simp [*]; done), by repeat (first | exact Drawn0.refl _ | apply Drawn0.step)⟩

/-! ### impl_truth: function 75 -/
def impl_truth.f (a0 : Bool) : Option (Int) := if a0 = true then (some 1) else (some 0)
set_option maxHeartbeats 8000000 in
set_option maxRecDepth 100000 in
theorem impl_truth.calls (a0 : Bool) (r : Int) (w : World) (h : impl_truth.f a0 = some r) :
  Calls Try.prog 75 #[.bool a0] w fun e w' => e = .returned (.int .i64 r) ∧ Drawn0 w w' := by
 have H : (if a0 = true then (some 1) else (some 0)) = some r := h
 clear h
 by_cases c2 : a0 = true
 ·subst c2
  have H1 : (some 1) = some r := by rw [if_pos rfl] at H; exact H
  clear H
  have H := H1
  clear H1
  obtain rfl := Option.some.inj H
  go_enter Try.func75, Try.ntmps75
  go_wp2
  go_ret
  exact ⟨by first | rfl | (simp; done) | (simp [*]; done), by repeat (first | exact Drawn0.refl _ | apply Drawn0.step)⟩
 ·replace c2 := Bool.eq_false_iff.mpr c2
  subst c2
  have H1 : (some 0) = some r := by rw [if_neg (show ¬ (false = true) by decide)] at H; exact H
  clear H
  have H := H1
  clear H1
  obtain rfl := Option.some.inj H
  go_enter Try.func75, Try.ntmps75
  go_wp2
  go_ret
  exact ⟨by first | rfl | (simp; done) | (simp [*]; done), by repeat (first | exact Drawn0.refl _ | apply Drawn0.step)⟩

/-! ### impl_Calc: function 35 -/
mutual
def impl_Calc.j0 : Nat → Int → Int → Int → Bool → Option (Int × Int)
 | 0, _, _, _, _ => none
 | k + 1, x0, x1, x2, x21 => if x21 = true then (some (0, 1)) else (if x2 = 0 then (if x0 = 4 then (impl_Calc.j1 k x0 x1 x2 true) else (impl_Calc.j1 k x0 x1 x2 (x0 == 5))) else (impl_Calc.j1 k x0 x1 x2 false))
def impl_Calc.j1 : Nat → Int → Int → Int → Bool → Option (Int × Int)
 | 0, _, _, _, _ => none
 | k + 1, x0, x1, x2, x31 => if x31 = true then (some (0, 2)) else (if x0 = 1 then ((impl_ValOk.f (wrap64 (x1 + x2))).bind fun t105 => (if t105 = true then (some (wrap64 (x1 + x2), 0)) else (some (0, 1)))) else (if x0 = 2 then ((impl_ValOk.f (wrap64 (x1 - x2))).bind fun t106 => (if t106 = true then (some (wrap64 (x1 - x2), 0)) else (some (0, 1)))) else (if x0 = 3 then ((impl_ValOk.f (wrap64 (x1 * x2))).bind fun t107 => (if t107 = true then (some (wrap64 (x1 * x2), 0)) else (some (0, 1)))) else (if x0 = 4 then (if x2 = 0 then (none) else ((impl_ValOk.f (wrap64 (Int.tdiv x1 x2))).bind fun t108 => (if t108 = true then (some (wrap64 (Int.tdiv x1 x2), 0)) else (some (0, 1))))) else (if x0 = 5 then (if x2 = 0 then (none) else ((impl_ValOk.f (Int.tmod x1 x2)).bind fun t109 => (if t109 = true then (some (Int.tmod x1 x2, 0)) else (some (0, 1))))) else (if x0 = 6 then ((impl_truth.f (decide (x1 < x2))).bind fun t110 => ((impl_ValOk.f t110).bind fun t111 => (if t111 = true then (some (t110, 0)) else (some (0, 1))))) else (if x0 = 7 then ((impl_truth.f (x1 == x2)).bind fun t112 => ((impl_ValOk.f t112).bind fun t113 => (if t113 = true then (some (t112, 0)) else (some (0, 1))))) else (if x0 = 8 then (if x1 = 0 then ((impl_truth.f false).bind fun t114 => ((impl_ValOk.f t114).bind fun t115 => (if t115 = true then (some (t114, 0)) else (some (0, 1))))) else ((impl_truth.f (x2 != 0)).bind fun t116 => ((impl_ValOk.f t116).bind fun t117 => (if t117 = true then (some (t116, 0)) else (some (0, 1)))))) else (if x0 = 9 then (if x1 = 0 then ((impl_truth.f (x2 != 0)).bind fun t118 => ((impl_ValOk.f t118).bind fun t119 => (if t119 = true then (some (t118, 0)) else (some (0, 1))))) else ((impl_truth.f true).bind fun t120 => ((impl_ValOk.f t120).bind fun t121 => (if t121 = true then (some (t120, 0)) else (some (0, 1)))))) else ((impl_ValOk.f 0).bind fun t122 => (if t122 = true then (some (0, 0)) else (some (0, 1)))))))))))))
end
def impl_Calc.f (k : Nat) (a0 : Int) (a1 : Int) (a2 : Int) : Option (Int × Int) := (impl_within.f a0 1 9).bind fun t102 => (if t102 = true then ((impl_ValOk.f a1).bind fun t103 => (if t103 = true then ((impl_ValOk.f a2).bind fun t104 => (impl_Calc.j0 k a0 a1 a2 (!t104))) else (impl_Calc.j0 k a0 a1 a2 true))) else (impl_Calc.j0 k a0 a1 a2 true))
theorem impl_Calc.mono_l : ∀ k, (∀ y0 y1 y2 y3, LeO (impl_Calc.j0 k y0 y1 y2 y3) (impl_Calc.j0 (k + 1) y0 y1 y2 y3)) ∧ (∀ y0 y1 y2 y3, LeO (impl_Calc.j1 k y0 y1 y2 y3) (impl_Calc.j1 (k + 1) y0 y1 y2 y3))
 | 0 => ⟨fun _ _ _ _ r h => by simp [impl_Calc.j0] at h, fun _ _ _ _ r h => by simp [impl_Calc.j1] at h⟩
 | k + 1 => by
  obtain ⟨ih0, ih1⟩ := impl_Calc.mono_l k
  refine ⟨?_, ?_⟩
  ·intro y0 y1 y2 y3
   unfold impl_Calc.j0
   repeat' first
   | (with_reducible exact ih0 _ _ _ _)
   | (with_reducible exact ih1 _ _ _ _)
   | (with_reducible exact LeO.refl _)
   | (with_reducible exact LeO.none _)
   | (with_reducible refine LeO.ite ?_ ?_)
   | (with_reducible refine LeO.bind ?_ (fun _ => ?_))
   | exact ih0 _ _ _ _
   | exact ih1 _ _ _ _
   | exact LeO.none _
   | refine LeO.ite ?_ ?_
   | refine LeO.bind ?_ (fun _ => ?_)
  ·intro y0 y1 y2 y3
   unfold impl_Calc.j1
   repeat' first
   | (with_reducible exact ih0 _ _ _ _)
   | (with_reducible exact ih1 _ _ _ _)
   | (with_reducible exact LeO.refl _)
   | (with_reducible exact LeO.none _)
   | (with_reducible refine LeO.ite ?_ ?_)
   | (with_reducible refine LeO.bind ?_ (fun _ => ?_))
   | exact ih0 _ _ _ _
   | exact ih1 _ _ _ _
   | exact LeO.none _
   | refine LeO.ite ?_ ?_
   | refine LeO.bind ?_ (fun _ => ?_)
theorem impl_Calc.mono : ∀ a0 a1 a2 k, LeO (impl_Calc.f k a0 a1 a2) (impl_Calc.f (k + 1) a0 a1 a2) := by
 intro a0 a1 a2 k
 obtain ⟨ih0, ih1⟩ := impl_Calc.mono_l k
 unfold impl_Calc.f
 repeat' first
   | (with_reducible exact ih0 _ _ _ _)
   | (with_reducible exact ih1 _ _ _ _)
   | (with_reducible exact LeO.refl _)
   | (with_reducible exact LeO.none _)
   | (with_reducible refine LeO.ite ?_ ?_)
   | (with_reducible refine LeO.bind ?_ (fun _ => ?_))
   | exact ih0 _ _ _ _
   | exact ih1 _ _ _ _
   | exact LeO.none _
   | refine LeO.ite ?_ ?_
   | refine LeO.bind ?_ (fun _ => ?_)
set_option maxHeartbeats 8000000 in
set_option maxRecDepth 100000 in
theorem impl_Calc.calls (k : Nat) (a0 : Int) (a1 : Int) (a2 : Int) (r1 : Int) (r2 : Int) (w : World) (h : impl_Calc.f k a0 a1 a2 = some (r1, r2)) :
  Calls Try.prog 35 #[.int .i64 a0, .int .i64 a1, .int .i64 a2] w fun e w' => e = .returned (.tuple #[.int .i64 r1, .int .i64 r2]) ∧ Drawn0 w w' := by
 have H : ((impl_within.f a0 1 9).bind fun t102 => (if t102 = true then ((impl_ValOk.f a1).bind fun t103 => (if t103 = true then ((impl_ValOk.f a2).bind fun t104 => (impl_Calc.j0 k a0 a1 a2 (!t104))) else (impl_Calc.j0 k a0 a1 a2 true))) else (impl_Calc.j0 k a0 a1 a2 true))) = some (r1, r2) := h
 clear h
 have HC4 := Aside0.mk H
 clear H
 go_enter Try.func35, Try.ntmps35
 go_upto_region 1 with (fail)
 go_cut [21] (fun v21 wc => ∃ (kq : Nat) (x21_3 : Bool), v21 = .bool x21_3 ∧ Aside0 (impl_Calc.j0 kq a0 a1 a2 x21_3 = some (r1, r2)) ∧ Aside0 (kq ≤ k) ∧ Drawn0 w wc)
 case first =>
  have H := HC4.out
  clear HC4
  replace H := Option.bind_eq_some_iff.mp H
  obtain ⟨t102, A50, H⟩ := H
  replace H : (if t102 = true then ((impl_ValOk.f a1).bind fun t103 => (if t103 = true then ((impl_ValOk.f a2).bind fun t104 => (impl_Calc.j0 k a0 a1 a2 (!t104))) else (impl_Calc.j0 k a0 a1 a2 true))) else (impl_Calc.j0 k a0 a1 a2 true)) = some (r1, r2) := H
  have A5 := Aside0.mk A50
  clear A50
  by_cases c6 : t102 = true
  ·subst c6
   have H1 : ((impl_ValOk.f a1).bind fun t103 => (if t103 = true then ((impl_ValOk.f a2).bind fun t104 => (impl_Calc.j0 k a0 a1 a2 (!t104))) else (impl_Calc.j0 k a0 a1 a2 true))) = some (r1, r2) := by rw [if_pos rfl] at H; exact H
   clear H
   have H := H1
   clear H1
   replace H := Option.bind_eq_some_iff.mp H
   obtain ⟨t103, A70, H⟩ := H
   replace H : (if t103 = true then ((impl_ValOk.f a2).bind fun t104 => (impl_Calc.j0 k a0 a1 a2 (!t104))) else (impl_Calc.j0 k a0 a1 a2 true)) = some (r1, r2) := H
   have A7 := Aside0.mk A70
   clear A70
   by_cases c8 : t103 = true
   ·subst c8
    have H1 : ((impl_ValOk.f a2).bind fun t104 => (impl_Calc.j0 k a0 a1 a2 (!t104))) = some (r1, r2) := by rw [if_pos rfl] at H; exact H
    clear H
    have H := H1
    clear H1
    replace H := Option.bind_eq_some_iff.mp H
    obtain ⟨t104, A90, H⟩ := H
    replace H : (impl_Calc.j0 k a0 a1 a2 (!t104)) = some (r1, r2) := H
    have A9 := Aside0.mk A90
    clear A90
    have H' := Aside0.mk H
    clear H
    go_wp2_with (first | ((with_reducible refine gate_callee (f := 66) rfl ?_); refine goesL_ (some 10) rfl rfl Try.func66 (by kernel_rfl) rfl #[.int .i64 a0, .int .i64 1, .int .i64 9] rfl Mp_ ?_; (with_reducible refine (impl_within.calls a0 1 9 true _ A5.out).mono ?_); rintro e w' ⟨rfl, ⟨nd, rfl⟩⟩; refine ⟨_, rfl, ?_⟩) | (go_at_call 47; (with_reducible refine (impl_ValOk.calls a1 true _ A7.out).mono ?_); rintro e w' ⟨rfl, ⟨nd, rfl⟩⟩) | (go_at_call 47; (with_reducible refine (impl_ValOk.calls a2 t104 _ A9.out).mono ?_); rintro e w' ⟨rfl, ⟨nd, rfl⟩⟩))
    go_meet
    case rel => exact ⟨_, (!t104), (by first | rfl | (simp; done) | (simp [*]; done)), H', ⟨by first | omega | exact Nat.le_refl _⟩, by repeat (first | exact Drawn0.refl _ | apply Drawn0.step)⟩
   ·replace c8 := Bool.eq_false_iff.mpr c8
    subst c8
    have H1 : (impl_Calc.j0 k a0 a1 a2 true) = some (r1, r2) := by rw [if_neg (show ¬ (false = true) by decide)] at H; exact H
    clear H
    have H := H1
    clear H1
    have H' := Aside0.mk H
    clear H
    go_wp2_with (first | ((with_reducible refine gate_callee (f := 66) rfl ?_); refine goesL_ (some 10) rfl rfl Try.func66 (by kernel_rfl) rfl #[.int .i64 a0, .int .i64 1, .int .i64 9] rfl Mp_ ?_; (with_reducible refine (impl_within.calls a0 1 9 true _ A5.out).mono ?_); rintro e w' ⟨rfl, ⟨nd, rfl⟩⟩; refine ⟨_, rfl, ?_⟩) | (go_at_call 47; (with_reducible refine (impl_ValOk.calls a1 false _ A7.out).mono ?_); rintro e w' ⟨rfl, ⟨nd, rfl⟩⟩))
    go_meet
    case rel => exact ⟨_, (true), (by first | rfl | (simp; done) | (simp [*]; done)), H', ⟨by first | omega | exact Nat.le_refl _⟩, by repeat (first | exact Drawn0.refl _ | apply Drawn0.step)⟩
  ·replace c6 := Bool.eq_false_iff.mpr c6
   subst c6
   have H1 : (impl_Calc.j0 k a0 a1 a2 true) = some (r1, r2) := by rw [if_neg (show ¬ (false = true) by decide)] at H; exact H
   clear H
   have H := H1
   clear H1
   have H' := Aside0.mk H
   clear H
   go_wp2_with (first | ((with_reducible refine gate_callee (f := 66) rfl ?_); refine goesL_ (some 10) rfl rfl Try.func66 (by kernel_rfl) rfl #[.int .i64 a0, .int .i64 1, .int .i64 9] rfl Mp_ ?_; (with_reducible refine (impl_within.calls a0 1 9 false _ A5.out).mono ?_); rintro e w' ⟨rfl, ⟨nd, rfl⟩⟩; refine ⟨_, rfl, ?_⟩))
   go_meet
   case rel => exact ⟨_, (true), (by first | rfl | (simp; done) | (simp [*]; done)), H', ⟨by first | omega | exact Nat.le_refl _⟩, by repeat (first | exact Drawn0.refl _ | apply Drawn0.step)⟩
 case rest =>
  clear HC4
  try clear p2
  try clear c3
  try clear c6
  try clear c8
  obtain ⟨kq, x21_3, rfl, HA, HJ3, ⟨mc3, rfl⟩⟩ := hcut
  cases kq with
  | zero => exact absurd HA.out (by simp [impl_Calc.j0])
  | succ kj3 =>
   have H := HA.out
   clear HA
   simp only [impl_Calc.j0] at H
   by_cases c10 : x21_3 = true
   ·subst c10
    have H1 : (some (0, 1)) = some (r1, r2) := by rw [if_pos rfl] at H; exact H
    clear H
    have H := H1
    clear H1
    simp only [Option.some.injEq, Prod.mk.injEq] at H
    obtain ⟨rfl, rfl⟩ := H
    go_wp2
    go_ret2
    exact ⟨by first | rfl | (simp; done) | (simp [*]; done), by repeat (first | exact Drawn0.refl _ | apply Drawn0.step)⟩
   ·replace c10 := Bool.eq_false_iff.mpr c10
    subst c10
    have H1 : (if a2 = 0 then (if a0 = 4 then (impl_Calc.j1 kj3 a0 a1 a2 true) else (impl_Calc.j1 kj3 a0 a1 a2 (a0 == 5))) else (impl_Calc.j1 kj3 a0 a1 a2 false)) = some (r1, r2) := by rw [if_neg (show ¬ (false = true) by decide)] at H; exact H
    clear H
    have H := H1
    clear H1
    have HC11 := Aside0.mk H
    clear H
    go_upto_region 3 with (fail)
    go_cut [31] (fun v31 wc => ∃ (kq : Nat) (x31_10 : Bool), v31 = .bool x31_10 ∧ Aside0 (impl_Calc.j1 kq a0 a1 a2 x31_10 = some (r1, r2)) ∧ Aside0 (kq ≤ kj3) ∧ Drawn0 w wc)
    case first =>
     have H := HC11.out
     clear HC11
     by_cases c12 : a2 = 0
     ·rw [if_pos c12] at H
      have c12b0 : (a2 == 0) = true := beq_iff_eq.mpr c12
      have c12b1 : (a2 != 0) = false := bne_eq_false_iff_eq.mpr c12
      clear c12
      (first | rw [c12b0] | (simp only [i64_w, i32_w]; rw [c12b0]) | skip)
      by_cases c13 : a0 = 4
      ·rw [if_pos c13] at H
       have c13b0 : (a0 == 4) = true := beq_iff_eq.mpr c13
       have c13b1 : (a0 != 4) = false := bne_eq_false_iff_eq.mpr c13
       clear c13
       have H' := Aside0.mk H
       clear H
       go_wp2
       go_meet
       case rel => exact ⟨_, (true), (by first | rfl | (simp; done) | (simp [*]; done)), H', ⟨by have := HJ3.out; first | omega | exact Nat.le_refl _⟩, by repeat (first | exact Drawn0.refl _ | apply Drawn0.step)⟩
      ·rw [if_neg c13] at H
       have c13b0 : (a0 == 4) = false := beq_eq_false_iff_ne.mpr c13
       have c13b1 : (a0 != 4) = true := bne_iff_ne.mpr c13
       have H' := Aside0.mk H
       clear H
       go_wp2
       go_meet
       case rel => exact ⟨_, ((a0 == 5)), (by first | rfl | (simp; done) | (simp [*]; done)), H', ⟨by have := HJ3.out; first | omega | exact Nat.le_refl _⟩, by repeat (first | exact Drawn0.refl _ | apply Drawn0.step)⟩
     ·rw [if_neg c12] at H
      have c12b0 : (a2 == 0) = false := beq_eq_false_iff_ne.mpr c12
      have c12b1 : (a2 != 0) = true := bne_iff_ne.mpr c12
      (first | rw [c12b0] | (simp only [i64_w, i32_w]; rw [c12b0]) | skip)
      have H' := Aside0.mk H
      clear H
      go_wp2
      go_meet
      case rel => exact ⟨_, (false), (by first | rfl | (simp; done) | (simp [*]; done)), H', ⟨by have := HJ3.out; first | omega | exact Nat.le_refl _⟩, by repeat (first | exact Drawn0.refl _ | apply Drawn0.step)⟩
    case rest =>
     clear HC11
     try clear c1
     try clear p2
     try clear c3
     try clear c6
     try clear c8
     try clear c10
     try clear c12
     try clear c12b0
     try clear c12b1
     try clear c13
     try clear c13b0
     try clear c13b1
     try clear p2
     obtain ⟨kq, x31_10, rfl, HA, HJ10, ⟨mc10, rfl⟩⟩ := hcut
     cases kq with
     | zero => exact absurd HA.out (by simp [impl_Calc.j1])
     | succ kj10 =>
      have H := HA.out
      clear HA
      simp only [impl_Calc.j1] at H
      by_cases c14 : x31_10 = true
      ·subst c14
       have H1 : (some (0, 2)) = some (r1, r2) := by rw [if_pos rfl] at H; exact H
       clear H
       have H := H1
       clear H1
       simp only [Option.some.injEq, Prod.mk.injEq] at H
       obtain ⟨rfl, rfl⟩ := H
       go_wp2
       go_ret2
       exact ⟨by first | rfl | (simp; done) | (simp [*]; done), by repeat (first | exact Drawn0.refl _ | apply Drawn0.step)⟩
      ·replace c14 := Bool.eq_false_iff.mpr c14
       subst c14
       have H1 : (if a0 = 1 then ((impl_ValOk.f (wrap64 (a1 + a2))).bind fun t105 => (if t105 = true then (some (wrap64 (a1 + a2), 0)) else (some (0, 1)))) else (if a0 = 2 then ((impl_ValOk.f (wrap64 (a1 - a2))).bind fun t106 => (if t106 = true then (some (wrap64 (a1 - a2), 0)) else (some (0, 1)))) else (if a0 = 3 then ((impl_ValOk.f (wrap64 (a1 * a2))).bind fun t107 => (if t107 = true then (some (wrap64 (a1 * a2), 0)) else (some (0, 1)))) else (if a0 = 4 then (if a2 = 0 then (none) else ((impl_ValOk.f (wrap64 (Int.tdiv a1 a2))).bind fun t108 => (if t108 = true then (some (wrap64 (Int.tdiv a1 a2), 0)) else (some (0, 1))))) else (if a0 = 5 then (if a2 = 0 then (none) else ((impl_ValOk.f (Int.tmod a1 a2)).bind fun t109 => (if t109 = true then (some (Int.tmod a1 a2, 0)) else (some (0, 1))))) else (if a0 = 6 then ((impl_truth.f (decide (a1 < a2))).bind fun t110 => ((impl_ValOk.f t110).bind fun t111 => (if t111 = true then (some (t110, 0)) else (some (0, 1))))) else (if a0 = 7 then ((impl_truth.f (a1 == a2)).bind fun t112 => ((impl_ValOk.f t112).bind fun t113 => (if t113 = true then (some (t112, 0)) else (some (0, 1))))) else (if a0 = 8 then (if a1 = 0 then ((impl_truth.f false).bind fun t114 => ((impl_ValOk.f t114).bind fun t115 => (if t115 = true then (some (t114, 0)) else (some (0, 1))))) else ((impl_truth.f (a2 != 0)).bind fun t116 => ((impl_ValOk.f t116).bind fun t117 => (if t117 = true then (some (t116, 0)) else (some (0, 1)))))) else (if a0 = 9 then (if a1 = 0 then ((impl_truth.f (a2 != 0)).bind fun t118 => ((impl_ValOk.f t118).bind fun t119 => (if t119 = true then (some (t118, 0)) else (some (0, 1))))) else ((impl_truth.f true).bind fun t120 => ((impl_ValOk.f t120).bind fun t121 => (if t121 = true then (some (t120, 0)) else (some (0, 1)))))) else ((impl_ValOk.f 0).bind fun t122 => (if t122 = true then (some (0, 0)) else (some (0, 1))))))))))))) = some (r1, r2) := by rw [if_neg (show ¬ (false = true) by decide)] at H; exact H
       clear H
       have H := H1
       clear H1
       by_cases c15 : a0 = 1
       ·rw [if_pos c15] at H
        have c15b0 : (a0 == 1) = true := beq_iff_eq.mpr c15
        have c15b1 : (a0 != 1) = false := bne_eq_false_iff_eq.mpr c15
        clear c15
        replace H := Option.bind_eq_some_iff.mp H
        obtain ⟨t105, A160, H⟩ := H
        replace H : (if t105 = true then (some (wrap64 (a1 + a2), 0)) else (some (0, 1))) = some (r1, r2) := H
        have A16 := Aside0.mk A160
        clear A160
        by_cases c17 : t105 = true
        ·subst c17
         have H1 : (some (wrap64 (a1 + a2), 0)) = some (r1, r2) := by rw [if_pos rfl] at H; exact H
         clear H
         have H := H1
         clear H1
         simp only [Option.some.injEq, Prod.mk.injEq] at H
         obtain ⟨rfl, rfl⟩ := H
         go_wp2_with (first | ((with_reducible refine gate_callee (f := 47) rfl ?_); refine goesL_ (some 89) rfl rfl Try.func47 (by kernel_rfl) rfl #[.int .i64 (wrap64 (a1 + a2))] rfl Mp_ ?_; (with_reducible refine (impl_ValOk.calls (wrap64 (a1 + a2)) true _ A16.out).mono ?_); rintro e w' ⟨rfl, ⟨nd, rfl⟩⟩; refine ⟨_, rfl, ?_⟩))
         go_ret2
         exact ⟨by first | rfl | (simp; done) | (simp [*]; done), by repeat (first | exact Drawn0.refl _ | apply Drawn0.step)⟩
        ·replace c17 := Bool.eq_false_iff.mpr c17
         subst c17
         have H1 : (some (0, 1)) = some (r1, r2) := by rw [if_neg (show ¬ (false = true) by decide)] at H; exact H
         clear H
         have H := H1
         clear H1
         simp only [Option.some.injEq, Prod.mk.injEq] at H
         obtain ⟨rfl, rfl⟩ := H
         go_wp2_with (first | ((with_reducible refine gate_callee (f := 47) rfl ?_); refine goesL_ (some 89) rfl rfl Try.func47 (by kernel_rfl) rfl #[.int .i64 (wrap64 (a1 + a2))] rfl Mp_ ?_; (with_reducible refine (impl_ValOk.calls (wrap64 (a1 + a2)) false _ A16.out).mono ?_); rintro e w' ⟨rfl, ⟨nd, rfl⟩⟩; refine ⟨_, rfl, ?_⟩))
         go_ret2
         exact ⟨by first | rfl | (simp; done) | (simp [*]; done), by repeat (first | exact Drawn0.refl _ | apply Drawn0.step)⟩
       ·rw [if_neg c15] at H
        have c15b0 : (a0 == 1) = false := beq_eq_false_iff_ne.mpr c15
        have c15b1 : (a0 != 1) = true := bne_iff_ne.mpr c15
        by_cases c18 : a0 = 2
        ·rw [if_pos c18] at H
         have c18b0 : (a0 == 2) = true := beq_iff_eq.mpr c18
         have c18b1 : (a0 != 2) = false := bne_eq_false_iff_eq.mpr c18
         clear c18
         replace H := Option.bind_eq_some_iff.mp H
         obtain ⟨t106, A190, H⟩ := H
         replace H : (if t106 = true then (some (wrap64 (a1 - a2), 0)) else (some (0, 1))) = some (r1, r2) := H
         have A19 := Aside0.mk A190
         clear A190
         by_cases c20 : t106 = true
         ·subst c20
          have H1 : (some (wrap64 (a1 - a2), 0)) = some (r1, r2) := by rw [if_pos rfl] at H; exact H
          clear H
          have H := H1
          clear H1
          simp only [Option.some.injEq, Prod.mk.injEq] at H
          obtain ⟨rfl, rfl⟩ := H
          go_wp2_with (first | ((with_reducible refine gate_callee (f := 47) rfl ?_); refine goesL_ (some 89) rfl rfl Try.func47 (by kernel_rfl) rfl #[.int .i64 (wrap64 (a1 - a2))] rfl Mp_ ?_; (with_reducible refine (impl_ValOk.calls (wrap64 (a1 - a2)) true _ A19.out).mono ?_); rintro e w' ⟨rfl, ⟨nd, rfl⟩⟩; refine ⟨_, rfl, ?_⟩))
          go_ret2
          exact ⟨by first | rfl | (simp; done) | (simp [*]; done), by repeat (first | exact Drawn0.refl _ | apply Drawn0.step)⟩
         ·replace c20 := Bool.eq_false_iff.mpr c20
          subst c20
          have H1 : (some (0, 1)) = some (r1, r2) := by rw [if_neg (show ¬ (false = true) by decide)] at H; exact H
          clear H
          have H := H1
          clear H1
          simp only [Option.some.injEq, Prod.mk.injEq] at H
          obtain ⟨rfl, rfl⟩ := H
          go_wp2_with (first | ((with_reducible refine gate_callee (f := 47) rfl ?_); refine goesL_ (some 89) rfl rfl Try.func47 (by kernel_rfl) rfl #[.int .i64 (wrap64 (a1 - a2))] rfl Mp_ ?_; (with_reducible refine (impl_ValOk.calls (wrap64 (a1 - a2)) false _ A19.out).mono ?_); rintro e w' ⟨rfl, ⟨nd, rfl⟩⟩; refine ⟨_, rfl, ?_⟩))
          go_ret2
          exact ⟨by first | rfl | (simp; done) | (simp [*]; done), by repeat (first | exact Drawn0.refl _ | apply Drawn0.step)⟩
        ·rw [if_neg c18] at H
         have c18b0 : (a0 == 2) = false := beq_eq_false_iff_ne.mpr c18
         have c18b1 : (a0 != 2) = true := bne_iff_ne.mpr c18
         by_cases c21 : a0 = 3
         ·rw [if_pos c21] at H
          have c21b0 : (a0 == 3) = true := beq_iff_eq.mpr c21
          have c21b1 : (a0 != 3) = false := bne_eq_false_iff_eq.mpr c21
          clear c21
          replace H := Option.bind_eq_some_iff.mp H
          obtain ⟨t107, A220, H⟩ := H
          replace H : (if t107 = true then (some (wrap64 (a1 * a2), 0)) else (some (0, 1))) = some (r1, r2) := H
          have A22 := Aside0.mk A220
          clear A220
          by_cases c23 : t107 = true
          ·subst c23
           have H1 : (some (wrap64 (a1 * a2), 0)) = some (r1, r2) := by rw [if_pos rfl] at H; exact H
           clear H
           have H := H1
           clear H1
           simp only [Option.some.injEq, Prod.mk.injEq] at H
           obtain ⟨rfl, rfl⟩ := H
           go_wp2_with (first | ((with_reducible refine gate_callee (f := 47) rfl ?_); refine goesL_ (some 89) rfl rfl Try.func47 (by kernel_rfl) rfl #[.int .i64 (wrap64 (a1 * a2))] rfl Mp_ ?_; (with_reducible refine (impl_ValOk.calls (wrap64 (a1 * a2)) true _ A22.out).mono ?_); rintro e w' ⟨rfl, ⟨nd, rfl⟩⟩; refine ⟨_, rfl, ?_⟩))
           go_ret2
           exact ⟨by first | rfl | (simp; done) | (simp [*]; done), by repeat (first | exact Drawn0.refl _ | apply Drawn0.step)⟩
          ·replace c23 := Bool.eq_false_iff.mpr c23
           subst c23
           have H1 : (some (0, 1)) = some (r1, r2) := by rw [if_neg (show ¬ (false = true) by decide)] at H; exact H
           clear H
           have H := H1
           clear H1
           simp only [Option.some.injEq, Prod.mk.injEq] at H
           obtain ⟨rfl, rfl⟩ := H
           go_wp2_with (first | ((with_reducible refine gate_callee (f := 47) rfl ?_); refine goesL_ (some 89) rfl rfl Try.func47 (by kernel_rfl) rfl #[.int .i64 (wrap64 (a1 * a2))] rfl Mp_ ?_; (with_reducible refine (impl_ValOk.calls (wrap64 (a1 * a2)) false _ A22.out).mono ?_); rintro e w' ⟨rfl, ⟨nd, rfl⟩⟩; refine ⟨_, rfl, ?_⟩))
           go_ret2
           exact ⟨by first | rfl | (simp; done) | (simp [*]; done), by repeat (first | exact Drawn0.refl _ | apply Drawn0.step)⟩
         ·rw [if_neg c21] at H
          have c21b0 : (a0 == 3) = false := beq_eq_false_iff_ne.mpr c21
          have c21b1 : (a0 != 3) = true := bne_iff_ne.mpr c21
          by_cases c24 : a0 = 4
          ·rw [if_pos c24] at H
           have c24b0 : (a0 == 4) = true := beq_iff_eq.mpr c24
           have c24b1 : (a0 != 4) = false := bne_eq_false_iff_eq.mpr c24
           clear c24
           by_cases c25 : a2 = 0
           ·rw [if_pos c25] at H
            exact absurd H (by simp)
           ·rw [if_neg c25] at H
            have c25b0 : (a2 == 0) = false := beq_eq_false_iff_ne.mpr c25
            have c25b1 : (a2 != 0) = true := bne_iff_ne.mpr c25
            replace H := Option.bind_eq_some_iff.mp H
            obtain ⟨t108, A260, H⟩ := H
            replace H : (if t108 = true then (some (wrap64 (Int.tdiv a1 a2), 0)) else (some (0, 1))) = some (r1, r2) := H
            have A26 := Aside0.mk A260
            clear A260
            by_cases c27 : t108 = true
            ·subst c27
             have H1 : (some (wrap64 (Int.tdiv a1 a2), 0)) = some (r1, r2) := by rw [if_pos rfl] at H; exact H
             clear H
             have H := H1
             clear H1
             simp only [Option.some.injEq, Prod.mk.injEq] at H
             obtain ⟨rfl, rfl⟩ := H
             go_wp2_with (first | ((with_reducible refine gate_callee (f := 47) rfl ?_); refine goesL_ (some 89) rfl rfl Try.func47 (by kernel_rfl) rfl #[.int .i64 (wrap64 (Int.tdiv a1 a2))] rfl Mp_ ?_; (with_reducible refine (impl_ValOk.calls (wrap64 (Int.tdiv a1 a2)) true _ A26.out).mono ?_); rintro e w' ⟨rfl, ⟨nd, rfl⟩⟩; refine ⟨_, rfl, ?_⟩))
             go_ret2
             exact ⟨by first | rfl | (simp; done) | (simp [*]; done), by repeat (first | exact Drawn0.refl _ | apply Drawn0.step)⟩
            ·replace c27 := Bool.eq_false_iff.mpr c27
             subst c27
             have H1 : (some (0, 1)) = some (r1, r2) := by rw [if_neg (show ¬ (false = true) by decide)] at H; exact H
             clear H
             have H := H1
             clear H1
             simp only [Option.some.injEq, Prod.mk.injEq] at H
             obtain ⟨rfl, rfl⟩ := H
             go_wp2_with (first | ((with_reducible refine gate_callee (f := 47) rfl ?_); refine goesL_ (some 89) rfl rfl Try.func47 (by kernel_rfl) rfl #[.int .i64 (wrap64 (Int.tdiv a1 a2))] rfl Mp_ ?_; (with_reducible refine (impl_ValOk.calls (wrap64 (Int.tdiv a1 a2)) false _ A26.out).mono ?_); rintro e w' ⟨rfl, ⟨nd, rfl⟩⟩; refine ⟨_, rfl, ?_⟩))
             go_ret2
             exact ⟨by first | rfl | (simp; done) | (simp [*]; done), by repeat (first | exact Drawn0.refl _ | apply Drawn0.step)⟩
          ·rw [if_neg c24] at H
           have c24b0 : (a0 == 4) = false := beq_eq_false_iff_ne.mpr c24
           have c24b1 : (a0 != 4) = true := bne_iff_ne.mpr c24
           by_cases c28 : a0 = 5
           ·rw [if_pos c28] at H
            have c28b0 : (a0 == 5) = true := beq_iff_eq.mpr c28
            have c28b1 : (a0 != 5) = false := bne_eq_false_iff_eq.mpr c28
            clear c28
            by_cases c29 : a2 = 0
            ·rw [if_pos c29] at H
             exact absurd H (by simp)
            ·rw [if_neg c29] at H
             have c29b0 : (a2 == 0) = false := beq_eq_false_iff_ne.mpr c29
             have c29b1 : (a2 != 0) = true := bne_iff_ne.mpr c29
             replace H := Option.bind_eq_some_iff.mp H
             obtain ⟨t109, A300, H⟩ := H
             replace H : (if t109 = true then (some (Int.tmod a1 a2, 0)) else (some (0, 1))) = some (r1, r2) := H
             have A30 := Aside0.mk A300
             clear A300
             by_cases c31 : t109 = true
             ·subst c31
              have H1 : (some (Int.tmod a1 a2, 0)) = some (r1, r2) := by rw [if_pos rfl] at H; exact H
              clear H
              have H := H1
              clear H1
              simp only [Option.some.injEq, Prod.mk.injEq] at H
              obtain ⟨rfl, rfl⟩ := H
              go_wp2_with (first | ((with_reducible refine gate_callee (f := 47) rfl ?_); refine goesL_ (some 89) rfl rfl Try.func47 (by kernel_rfl) rfl #[.int .i64 (Int.tmod a1 a2)] rfl Mp_ ?_; (with_reducible refine (impl_ValOk.calls (Int.tmod a1 a2) true _ A30.out).mono ?_); rintro e w' ⟨rfl, ⟨nd, rfl⟩⟩; refine ⟨_, rfl, ?_⟩))
              go_ret2
              exact ⟨by first | rfl | (simp; done) | (simp [*]; done), by repeat (first | exact Drawn0.refl _ | apply Drawn0.step)⟩
             ·replace c31 := Bool.eq_false_iff.mpr c31
              subst c31
              have H1 : (some (0, 1)) = some (r1, r2) := by rw [if_neg (show ¬ (false = true) by decide)] at H; exact H
              clear H
              have H := H1
              clear H1
              simp only [Option.some.injEq, Prod.mk.injEq] at H
              obtain ⟨rfl, rfl⟩ := H
              go_wp2_with (first | ((with_reducible refine gate_callee (f := 47) rfl ?_); refine goesL_ (some 89) rfl rfl Try.func47 (by kernel_rfl) rfl #[.int .i64 (Int.tmod a1 a2)] rfl Mp_ ?_; (with_reducible refine (impl_ValOk.calls (Int.tmod a1 a2) false _ A30.out).mono ?_); rintro e w' ⟨rfl, ⟨nd, rfl⟩⟩; refine ⟨_, rfl, ?_⟩))
              go_ret2
              exact ⟨by first | rfl | (simp; done) | (simp [*]; done), by repeat (first | exact Drawn0.refl _ | apply Drawn0.step)⟩
           ·rw [if_neg c28] at H
            have c28b0 : (a0 == 5) = false := beq_eq_false_iff_ne.mpr c28
            have c28b1 : (a0 != 5) = true := bne_iff_ne.mpr c28
            by_cases c32 : a0 = 6
            ·rw [if_pos c32] at H
             have c32b0 : (a0 == 6) = true := beq_iff_eq.mpr c32
             have c32b1 : (a0 != 6) = false := bne_eq_false_iff_eq.mpr c32
             clear c32
             replace H := Option.bind_eq_some_iff.mp H
             obtain ⟨t110, A330, H⟩ := H
             replace H : ((impl_ValOk.f t110).bind fun t111 => (if t111 = true then (some (t110, 0)) else (some (0, 1)))) = some (r1, r2) := H
             have A33 := Aside0.mk A330
             clear A330
             replace H := Option.bind_eq_some_iff.mp H
             obtain ⟨t111, A340, H⟩ := H
             replace H : (if t111 = true then (some (t110, 0)) else (some (0, 1))) = some (r1, r2) := H
             have A34 := Aside0.mk A340
             clear A340
             by_cases c35 : t111 = true
             ·subst c35
              have H1 : (some (t110, 0)) = some (r1, r2) := by rw [if_pos rfl] at H; exact H
              clear H
              have H := H1
              clear H1
              simp only [Option.some.injEq, Prod.mk.injEq] at H
              obtain ⟨rfl, rfl⟩ := H
              go_wp2_with (first | ((with_reducible refine gate_callee (f := 75) rfl ?_); refine goesL_ (some 63) rfl rfl Try.func75 (by kernel_rfl) rfl #[.bool (decide (a1 < a2))] rfl Mp_ ?_; (with_reducible refine (impl_truth.calls (decide (a1 < a2)) t110 _ A33.out).mono ?_); rintro e w' ⟨rfl, ⟨nd, rfl⟩⟩; refine ⟨_, rfl, ?_⟩) | ((with_reducible refine gate_callee (f := 47) rfl ?_); refine goesL_ (some 89) rfl rfl Try.func47 (by kernel_rfl) rfl #[.int .i64 t110] rfl Mp_ ?_; (with_reducible refine (impl_ValOk.calls t110 true _ A34.out).mono ?_); rintro e w' ⟨rfl, ⟨nd, rfl⟩⟩; refine ⟨_, rfl, ?_⟩))
              go_ret2
              exact ⟨by first | rfl | (simp; done) | (simp [*]; done), by repeat (first | exact Drawn0.refl _ | apply Drawn0.step)⟩
             ·replace c35 := Bool.eq_false_iff.mpr c35
              subst c35
              have H1 : (some (0, 1)) = some (r1, r2) := by rw [if_neg (show ¬ (false = true) by decide)] at H; exact H
              clear H
              have H := H1
              clear H1
              simp only [Option.some.injEq, Prod.mk.injEq] at H
              obtain ⟨rfl, rfl⟩ := H
              go_wp2_with (first | ((with_reducible refine gate_callee (f := 75) rfl ?_); refine goesL_ (some 63) rfl rfl Try.func75 (by kernel_rfl) rfl #[.bool (decide (a1 < a2))] rfl Mp_ ?_; (with_reducible refine (impl_truth.calls (decide (a1 < a2)) t110 _ A33.out).mono ?_); rintro e w' ⟨rfl, ⟨nd, rfl⟩⟩; refine ⟨_, rfl, ?_⟩) | ((with_reducible refine gate_callee (f := 47) rfl ?_); refine goesL_ (some 89) rfl rfl Try.func47 (by kernel_rfl) rfl #[.int .i64 t110] rfl Mp_ ?_; (with_reducible refine (impl_ValOk.calls t110 false _ A34.out).mono ?_); rintro e w' ⟨rfl, ⟨nd, rfl⟩⟩; refine ⟨_, rfl, ?_⟩))
              go_ret2
              exact ⟨by first | rfl | (simp; done) | (simp [*]; done), by repeat (first | exact Drawn0.refl _ | apply Drawn0.step)⟩
            ·rw [if_neg c32] at H
             have c32b0 : (a0 == 6) = false := beq_eq_false_iff_ne.mpr c32
             have c32b1 : (a0 != 6) = true := bne_iff_ne.mpr c32
             by_cases c36 : a0 = 7
             ·rw [if_pos c36] at H
              have c36b0 : (a0 == 7) = true := beq_iff_eq.mpr c36
              have c36b1 : (a0 != 7) = false := bne_eq_false_iff_eq.mpr c36
              clear c36
              replace H := Option.bind_eq_some_iff.mp H
              obtain ⟨t112, A370, H⟩ := H
              replace H : ((impl_ValOk.f t112).bind fun t113 => (if t113 = true then (some (t112, 0)) else (some (0, 1)))) = some (r1, r2) := H
              have A37 := Aside0.mk A370
              clear A370
              replace H := Option.bind_eq_some_iff.mp H
              obtain ⟨t113, A380, H⟩ := H
              replace H : (if t113 = true then (some (t112, 0)) else (some (0, 1))) = some (r1, r2) := H
              have A38 := Aside0.mk A380
              clear A380
              by_cases c39 : t113 = true
              ·subst c39
               have H1 : (some (t112, 0)) = some (r1, r2) := by rw [if_pos rfl] at H; exact H
               clear H
               have H := H1
               clear H1
               simp only [Option.some.injEq, Prod.mk.injEq] at H
               obtain ⟨rfl, rfl⟩ := H
               go_wp2_with (first | ((with_reducible refine gate_callee (f := 75) rfl ?_); refine goesL_ (some 69) rfl rfl Try.func75 (by kernel_rfl) rfl #[.bool (a1 == a2)] rfl Mp_ ?_; (with_reducible refine (impl_truth.calls (a1 == a2) t112 _ A37.out).mono ?_); rintro e w' ⟨rfl, ⟨nd, rfl⟩⟩; refine ⟨_, rfl, ?_⟩) | ((with_reducible refine gate_callee (f := 47) rfl ?_); refine goesL_ (some 89) rfl rfl Try.func47 (by kernel_rfl) rfl #[.int .i64 t112] rfl Mp_ ?_; (with_reducible refine (impl_ValOk.calls t112 true _ A38.out).mono ?_); rintro e w' ⟨rfl, ⟨nd, rfl⟩⟩; refine ⟨_, rfl, ?_⟩))
               go_ret2
               exact ⟨by first | rfl | (simp; done) | (simp [*]; done), by repeat (first | exact Drawn0.refl _ | apply Drawn0.step)⟩
              ·replace c39 := Bool.eq_false_iff.mpr c39
               subst c39
               have H1 : (some (0, 1)) = some (r1, r2) := by rw [if_neg (show ¬ (false = true) by decide)] at H; exact H
               clear H
               have H := H1
               clear H1
               simp only [Option.some.injEq, Prod.mk.injEq] at H
               obtain ⟨rfl, rfl⟩ := H
               go_wp2_with (first | ((with_reducible refine gate_callee (f := 75) rfl ?_); refine goesL_ (some 69) rfl rfl Try.func75 (by kernel_rfl) rfl #[.bool (a1 == a2)] rfl Mp_ ?_; (with_reducible refine (impl_truth.calls (a1 == a2) t112 _ A37.out).mono ?_); rintro e w' ⟨rfl, ⟨nd, rfl⟩⟩; refine ⟨_, rfl, ?_⟩) | ((with_reducible refine gate_callee (f := 47) rfl ?_); refine goesL_ (some 89) rfl rfl Try.func47 (by kernel_rfl) rfl #[.int .i64 t112] rfl Mp_ ?_; (with_reducible refine (impl_ValOk.calls t112 false _ A38.out).mono ?_); rintro e w' ⟨rfl, ⟨nd, rfl⟩⟩; refine ⟨_, rfl, ?_⟩))
               go_ret2
               exact ⟨by first | rfl | (simp; done) | (simp [*]; done), by repeat (first | exact Drawn0.refl _ | apply Drawn0.step)⟩
             ·rw [if_neg c36] at H
              have c36b0 : (a0 == 7) = false := beq_eq_false_iff_ne.mpr c36
              have c36b1 : (a0 != 7) = true := bne_iff_ne.mpr c36
              by_cases c40 : a0 = 8
              ·rw [if_pos c40] at H
               have c40b0 : (a0 == 8) = true := beq_iff_eq.mpr c40
               have c40b1 : (a0 != 8) = false := bne_eq_false_iff_eq.mpr c40
               clear c40
               by_cases c41 : a1 = 0
               ·rw [if_pos c41] at H
                have c41b0 : (a1 == 0) = true := beq_iff_eq.mpr c41
                have c41b1 : (a1 != 0) = false := bne_eq_false_iff_eq.mpr c41
                clear c41
                replace H := Option.bind_eq_some_iff.mp H
                obtain ⟨t114, A420, H⟩ := H
                replace H : ((impl_ValOk.f t114).bind fun t115 => (if t115 = true then (some (t114, 0)) else (some (0, 1)))) = some (r1, r2) := H
                have A42 := Aside0.mk A420
                clear A420
                replace H := Option.bind_eq_some_iff.mp H
                obtain ⟨t115, A430, H⟩ := H
                replace H : (if t115 = true then (some (t114, 0)) else (some (0, 1))) = some (r1, r2) := H
                have A43 := Aside0.mk A430
                clear A430
                by_cases c44 : t115 = true
                ·subst c44
                 have H1 : (some (t114, 0)) = some (r1, r2) := by rw [if_pos rfl] at H; exact H
                 clear H
                 have H := H1
                 clear H1
                 simp only [Option.some.injEq, Prod.mk.injEq] at H
                 obtain ⟨rfl, rfl⟩ := H
                 go_wp2_with (first | ((with_reducible refine gate_callee (f := 75) rfl ?_); refine goesL_ (some 78) rfl rfl Try.func75 (by kernel_rfl) rfl #[.bool false] rfl Mp_ ?_; (with_reducible refine (impl_truth.calls false t114 _ A42.out).mono ?_); rintro e w' ⟨rfl, ⟨nd, rfl⟩⟩; refine ⟨_, rfl, ?_⟩) | ((with_reducible refine gate_callee (f := 47) rfl ?_); refine goesL_ (some 89) rfl rfl Try.func47 (by kernel_rfl) rfl #[.int .i64 t114] rfl Mp_ ?_; (with_reducible refine (impl_ValOk.calls t114 true _ A43.out).mono ?_); rintro e w' ⟨rfl, ⟨nd, rfl⟩⟩; refine ⟨_, rfl, ?_⟩))
                 go_ret2
                 exact ⟨by first | rfl | (simp; done) | (simp [*]; done), by repeat (first | exact Drawn0.refl _ | apply Drawn0.step)⟩
                ·replace c44 := Bool.eq_false_iff.mpr c44
                 subst c44
                 have H1 : (some (0, 1)) = some (r1, r2) := by rw [if_neg (show ¬ (false = true) by decide)] at H; exact H
                 clear H
                 have H := H1
                 clear H1
                 simp only [Option.some.injEq, Prod.mk.injEq] at H
                 obtain ⟨rfl, rfl⟩ := H
                 go_wp2_with (first | ((with_reducible refine gate_callee (f := 75) rfl ?_); refine goesL_ (some 78) rfl rfl Try.func75 (by kernel_rfl) rfl #[.bool false] rfl Mp_ ?_; (with_reducible refine (impl_truth.calls false t114 _ A42.out).mono ?_); rintro e w' ⟨rfl, ⟨nd, rfl⟩⟩; refine ⟨_, rfl, ?_⟩) | ((with_reducible refine gate_callee (f := 47) rfl ?_); refine goesL_ (some 89) rfl rfl Try.func47 (by kernel_rfl) rfl #[.int .i64 t114] rfl Mp_ ?_; (with_reducible refine (impl_ValOk.calls t114 false _ A43.out).mono ?_); rintro e w' ⟨rfl, ⟨nd, rfl⟩⟩; refine ⟨_, rfl, ?_⟩))
                 go_ret2
                 exact ⟨by first | rfl | (simp; done) | (simp [*]; done), by repeat (first | exact Drawn0.refl _ | apply Drawn0.step)⟩
               ·rw [if_neg c41] at H
                have c41b0 : (a1 == 0) = false := beq_eq_false_iff_ne.mpr c41
                have c41b1 : (a1 != 0) = true := bne_iff_ne.mpr c41
                replace H := Option.bind_eq_some_iff.mp H
                obtain ⟨t116, A450, H⟩ := H
                replace H : ((impl_ValOk.f t116).bind fun t117 => (if t117 = true then (some (t116, 0)) else (some (0, 1)))) = some (r1, r2) := H
                have A45 := Aside0.mk A450
                clear A450
                replace H := Option.bind_eq_some_iff.mp H
                obtain ⟨t117, A460, H⟩ := H
                replace H : (if t117 = true then (some (t116, 0)) else (some (0, 1))) = some (r1, r2) := H
                have A46 := Aside0.mk A460
                clear A460
                by_cases c47 : t117 = true
                ·subst c47
                 have H1 : (some (t116, 0)) = some (r1, r2) := by rw [if_pos rfl] at H; exact H
                 clear H
                 have H := H1
                 clear H1
                 simp only [Option.some.injEq, Prod.mk.injEq] at H
                 obtain ⟨rfl, rfl⟩ := H
                 go_wp2_with (first | ((with_reducible refine gate_callee (f := 75) rfl ?_); refine goesL_ (some 78) rfl rfl Try.func75 (by kernel_rfl) rfl #[.bool (a2 != 0)] rfl Mp_ ?_; (with_reducible refine (impl_truth.calls (a2 != 0) t116 _ A45.out).mono ?_); rintro e w' ⟨rfl, ⟨nd, rfl⟩⟩; refine ⟨_, rfl, ?_⟩) | ((with_reducible refine gate_callee (f := 47) rfl ?_); refine goesL_ (some 89) rfl rfl Try.func47 (by kernel_rfl) rfl #[.int .i64 t116] rfl Mp_ ?_; (with_reducible refine (impl_ValOk.calls t116 true _ A46.out).mono ?_); rintro e w' ⟨rfl, ⟨nd, rfl⟩⟩; refine ⟨_, rfl, ?_⟩))
                 go_ret2
                 exact ⟨by first | rfl | (simp; done) | (simp [*]; done), by repeat (first | exact Drawn0.refl _ | apply Drawn0.step)⟩
                ·replace c47 := Bool.eq_false_iff.mpr c47
                 subst c47
                 have H1 : (some (0, 1)) = some (r1, r2) := by rw [if_neg (show ¬ (false = true) by decide)] at H; exact H
                 clear H
                 have H := H1
                 clear H1
                 simp only [Option.some.injEq, Prod.mk.injEq] at H
                 obtain ⟨rfl, rfl⟩ := H
                 go_wp2_with (first | ((with_reducible refine gate_callee (f := 75) rfl ?_); refine goesL_ (some 78) rfl rfl Try.func75 (by kernel_rfl) rfl #[.bool (a2 != 0)] rfl Mp_ ?_; (with_reducible refine (impl_truth.calls (a2 != 0) t116 _ A45.out).mono ?_); rintro e w' ⟨rfl, ⟨nd, rfl⟩⟩; refine ⟨_, rfl, ?_⟩) | ((with_reducible refine gate_callee (f := 47) rfl ?_); refine goesL_ (some 89) rfl rfl Try.func47 (by kernel_rfl) rfl #[.int .i64 t116] rfl Mp_ ?_; (with_reducible refine (impl_ValOk.calls t116 false _ A46.out).mono ?_); rintro e w' ⟨rfl, ⟨nd, rfl⟩⟩; refine ⟨_, rfl, ?_⟩))
                 go_ret2
                 exact ⟨by first | rfl | (simp; done) | (simp [*]; done), by repeat (first | exact Drawn0.refl _ | apply Drawn0.step)⟩
              ·rw [if_neg c40] at H
               have c40b0 : (a0 == 8) = false := beq_eq_false_iff_ne.mpr c40
               have c40b1 : (a0 != 8) = true := bne_iff_ne.mpr c40
               by_cases c48 : a0 = 9
               ·rw [if_pos c48] at H
                have c48b0 : (a0 == 9) = true := beq_iff_eq.mpr c48
                have c48b1 : (a0 != 9) = false := bne_eq_false_iff_eq.mpr c48
                clear c48
                by_cases c49 : a1 = 0
                ·rw [if_pos c49] at H
                 have c49b0 : (a1 == 0) = true := beq_iff_eq.mpr c49
                 have c49b1 : (a1 != 0) = false := bne_eq_false_iff_eq.mpr c49
                 clear c49
                 replace H := Option.bind_eq_some_iff.mp H
                 obtain ⟨t118, A500, H⟩ := H
                 replace H : ((impl_ValOk.f t118).bind fun t119 => (if t119 = true then (some (t118, 0)) else (some (0, 1)))) = some (r1, r2) := H
                 have A50 := Aside0.mk A500
                 clear A500
                 replace H := Option.bind_eq_some_iff.mp H
                 obtain ⟨t119, A510, H⟩ := H
                 replace H : (if t119 = true then (some (t118, 0)) else (some (0, 1))) = some (r1, r2) := H
                 have A51 := Aside0.mk A510
                 clear A510
                 by_cases c52 : t119 = true
                 ·subst c52
                  have H1 : (some (t118, 0)) = some (r1, r2) := by rw [if_pos rfl] at H; exact H
                  clear H
                  have H := H1
                  clear H1
                  simp only [Option.some.injEq, Prod.mk.injEq] at H
                  obtain ⟨rfl, rfl⟩ := H
                  go_wp2_with (first | ((with_reducible refine gate_callee (f := 75) rfl ?_); refine goesL_ (some 87) rfl rfl Try.func75 (by kernel_rfl) rfl #[.bool (a2 != 0)] rfl Mp_ ?_; (with_reducible refine (impl_truth.calls (a2 != 0) t118 _ A50.out).mono ?_); rintro e w' ⟨rfl, ⟨nd, rfl⟩⟩; refine ⟨_, rfl, ?_⟩) | ((with_reducible refine gate_callee (f := 47) rfl ?_); refine goesL_ (some 89) rfl rfl Try.func47 (by kernel_rfl) rfl #[.int .i64 t118] rfl Mp_ ?_; (with_reducible refine (impl_ValOk.calls t118 true _ A51.out).mono ?_); rintro e w' ⟨rfl, ⟨nd, rfl⟩⟩; refine ⟨_, rfl, ?_⟩))
                  go_ret2
                  exact ⟨by first | rfl | (simp; done) | (simp [*]; done), by repeat (first | exact Drawn0.refl _ | apply Drawn0.step)⟩
                 ·replace c52 := Bool.eq_false_iff.mpr c52
                  subst c52
                  have H1 : (some (0, 1)) = some (r1, r2) := by rw [if_neg (show ¬ (false = true) by decide)] at H; exact H
                  clear H
                  have H := H1
                  clear H1
                  simp only [Option.some.injEq, Prod.mk.injEq] at H
                  obtain ⟨rfl, rfl⟩ := H
                  go_wp2_with (first | ((with_reducible refine gate_callee (f := 75) rfl ?_); refine goesL_ (some 87) rfl rfl Try.func75 (by kernel_rfl) rfl #[.bool (a2 != 0)] rfl Mp_ ?_; (with_reducible refine (impl_truth.calls (a2 != 0) t118 _ A50.out).mono ?_); rintro e w' ⟨rfl, ⟨nd, rfl⟩⟩; refine ⟨_, rfl, ?_⟩) | ((with_reducible refine gate_callee (f := 47) rfl ?_); refine goesL_ (some 89) rfl rfl Try.func47 (by kernel_rfl) rfl #[.int .i64 t118] rfl Mp_ ?_; (with_reducible refine (impl_ValOk.calls t118 false _ A51.out).mono ?_); rintro e w' ⟨rfl, ⟨nd, rfl⟩⟩; refine ⟨_, rfl, ?_⟩))
                  go_ret2
                  exact ⟨by first | rfl | (simp; done) | (simp [*]; done), by repeat (first | exact Drawn0.refl _ | apply Drawn0.step)⟩
                ·rw [if_neg c49] at H
                 have c49b0 : (a1 == 0) = false := beq_eq_false_iff_ne.mpr c49
                 have c49b1 : (a1 != 0) = true := bne_iff_ne.mpr c49
                 replace H := Option.bind_eq_some_iff.mp H
                 obtain ⟨t120, A530, H⟩ := H
                 replace H : ((impl_ValOk.f t120).bind fun t121 => (if t121 = true then (some (t120, 0)) else (some (0, 1)))) = some (r1, r2) := H
                 have A53 := Aside0.mk A530
                 clear A530
                 replace H := Option.bind_eq_some_iff.mp H
                 obtain ⟨t121, A540, H⟩ := H
                 replace H : (if t121 = true then (some (t120, 0)) else (some (0, 1))) = some (r1, r2) := H
                 have A54 := Aside0.mk A540
                 clear A540
                 by_cases c55 : t121 = true
                 ·subst c55
                  have H1 : (some (t120, 0)) = some (r1, r2) := by rw [if_pos rfl] at H; exact H
                  clear H
                  have H := H1
                  clear H1
                  simp only [Option.some.injEq, Prod.mk.injEq] at H
                  obtain ⟨rfl, rfl⟩ := H
                  go_wp2_with (first | ((with_reducible refine gate_callee (f := 75) rfl ?_); refine goesL_ (some 87) rfl rfl Try.func75 (by kernel_rfl) rfl #[.bool true] rfl Mp_ ?_; (with_reducible refine (impl_truth.calls true t120 _ A53.out).mono ?_); rintro e w' ⟨rfl, ⟨nd, rfl⟩⟩; refine ⟨_, rfl, ?_⟩) | ((with_reducible refine gate_callee (f := 47) rfl ?_); refine goesL_ (some 89) rfl rfl Try.func47 (by kernel_rfl) rfl #[.int .i64 t120] rfl Mp_ ?_; (with_reducible refine (impl_ValOk.calls t120 true _ A54.out).mono ?_); rintro e w' ⟨rfl, ⟨nd, rfl⟩⟩; refine ⟨_, rfl, ?_⟩))
                  go_ret2
                  exact ⟨by first | rfl | (simp; done) | (simp [*]; done), by repeat (first | exact Drawn0.refl _ | apply Drawn0.step)⟩
                 ·replace c55 := Bool.eq_false_iff.mpr c55
                  subst c55
                  have H1 : (some (0, 1)) = some (r1, r2) := by rw [if_neg (show ¬ (false = true) by decide)] at H; exact H
                  clear H
                  have H := H1
                  clear H1
                  simp only [Option.some.injEq, Prod.mk.injEq] at H
                  obtain ⟨rfl, rfl⟩ := H
                  go_wp2_with (first | ((with_reducible refine gate_callee (f := 75) rfl ?_); refine goesL_ (some 87) rfl rfl Try.func75 (by kernel_rfl) rfl #[.bool true] rfl Mp_ ?_; (with_reducible refine (impl_truth.calls true t120 _ A53.out).mono ?_); rintro e w' ⟨rfl, ⟨nd, rfl⟩⟩; refine ⟨_, rfl, ?_⟩) | ((with_reducible refine gate_callee (f := 47) rfl ?_); refine goesL_ (some 89) rfl rfl Try.func47 (by kernel_rfl) rfl #[.int .i64 t120] rfl Mp_ ?_; (with_reducible refine (impl_ValOk.calls t120 false _ A54.out).mono ?_); rintro e w' ⟨rfl, ⟨nd, rfl⟩⟩; refine ⟨_, rfl, ?_⟩))
                  go_ret2
                  exact ⟨by first | rfl | (simp; done) | (simp [*]; done), by repeat (first | exact Drawn0.refl _ | apply Drawn0.step)⟩
               ·rw [if_neg c48] at H
                have c48b0 : (a0 == 9) = false := beq_eq_false_iff_ne.mpr c48
                have c48b1 : (a0 != 9) = true := bne_iff_ne.mpr c48
                replace H := Option.bind_eq_some_iff.mp H
                obtain ⟨t122, A560, H⟩ := H
                replace H : (if t122 = true then (some (0, 0)) else (some (0, 1))) = some (r1, r2) := H
                have A56 := Aside0.mk A560
                clear A560
                by_cases c57 : t122 = true
                ·subst c57
                 have H1 : (some (0, 0)) = some (r1, r2) := by rw [if_pos rfl] at H; exact H
                 clear H
                 have H := H1
                 clear H1
                 simp only [Option.some.injEq, Prod.mk.injEq] at H
                 obtain ⟨rfl, rfl⟩ := H
                 go_wp2_with (first | ((with_reducible refine gate_callee (f := 47) rfl ?_); refine goesL_ (some 89) rfl rfl Try.func47 (by kernel_rfl) rfl #[.int .i64 0] rfl Mp_ ?_; (with_reducible refine (impl_ValOk.calls 0 true _ A56.out).mono ?_); rintro e w' ⟨rfl, ⟨nd, rfl⟩⟩; refine ⟨_, rfl, ?_⟩))
                 go_ret2
                 exact ⟨by first | rfl | (simp; done) | (simp [*]; done), by repeat (first | exact Drawn0.refl _ | apply Drawn0.step)⟩
                ·replace c57 := Bool.eq_false_iff.mpr c57
                 subst c57
                 have H1 : (some (0, 1)) = some (r1, r2) := by rw [if_neg (show ¬ (false = true) by decide)] at H; exact H
                 clear H
                 have H := H1
                 clear H1
                 simp only [Option.some.injEq, Prod.mk.injEq] at H
                 obtain ⟨rfl, rfl⟩ := H
                 go_wp2_with (first | ((with_reducible refine gate_callee (f := 47) rfl ?_); refine goesL_ (some 89) rfl rfl Try.func47 (by kernel_rfl) rfl #[.int .i64 0] rfl Mp_ ?_; (with_reducible refine (impl_ValOk.calls 0 false _ A56.out).mono ?_); rintro e w' ⟨rfl, ⟨nd, rfl⟩⟩; refine ⟨_, rfl, ?_⟩))
                 go_ret2
                 exact ⟨by first | rfl | (simp; done) | (simp [*]; done), by repeat (first | exact Drawn0.refl _ | apply Drawn0.step)⟩

/-! ### spec_l01In: function 64 -/
def spec_l01In.f (a0 : Int) (a1 : Int) (a2 : Int) : Option (Bool) := if a0 ≥ a1 then (some (decide (a0 ≤ a2))) else (some false)
set_option maxHeartbeats 8000000 in
set_option maxRecDepth 100000 in
theorem spec_l01In.calls (a0 : Int) (a1 : Int) (a2 : Int) (r : Bool) (w : World) (h : spec_l01In.f a0 a1 a2 = some r) :
  Calls Try.prog 64 #[.int .i64 a0, .int .i64 a1, .int .i64 a2] w fun e w' => e = .returned (.bool r) ∧ Drawn0 w w' := by
 have H : (if a0 ≥ a1 then (some (decide (a0 ≤ a2))) else (some false)) = some r := h
 clear h
 by_cases c4 : a0 ≥ a1
 ·rw [if_pos c4] at H
  have c4b0 : decide (a1 ≤ a0) = true := decide_eq_true c4
  clear c4
  obtain rfl := Option.some.inj H
  go_enter Try.func64, Try.ntmps64
  go_wp2
  go_ret
  exact ⟨by first | rfl | (simp; done) | (simp [*]; done), by repeat (first | exact Drawn0.refl _ | apply Drawn0.step)⟩
 ·rw [if_neg c4] at H
  have c4b0 : decide (a1 ≤ a0) = false := decide_eq_false c4
  clear c4
  obtain rfl := Option.some.inj H
  go_enter Try.func64, Try.ntmps64
  go_wp2
  go_ret
  exact ⟨by first | rfl | (simp; done) | (simp [*]; done), by repeat (first | exact Drawn0.refl _ | apply Drawn0.step)⟩

/-! ### spec_ValOk: function 54 -/
def spec_ValOk.f (a0 : Int) : Option (Bool) := (spec_l01In.f a0 (-1000000) 1000000).bind fun t123 => (some t123)
set_option maxHeartbeats 8000000 in
set_option maxRecDepth 100000 in
theorem spec_ValOk.calls (a0 : Int) (r : Bool) (w : World) (h : spec_ValOk.f a0 = some r) :
  Calls Try.prog 54 #[.int .i64 a0] w fun e w' => e = .returned (.bool r) ∧ Drawn0 w w' := by
 have H : ((spec_l01In.f a0 (-1000000) 1000000).bind fun t123 => (some t123)) = some r := h
 clear h
 replace H := Option.bind_eq_some_iff.mp H
 obtain ⟨t123, A20, H⟩ := H
 replace H : (some t123) = some r := H
 have A2 := Aside0.mk A20
 clear A20
 obtain rfl := Option.some.inj H
 go_enter Try.func54, Try.ntmps54
 go_wp2_with (first | ((with_reducible refine gate_callee (f := 64) rfl ?_); refine goesL_ (some 4) rfl rfl Try.func64 (by kernel_rfl) rfl #[.int .i64 a0, .int .i64 (-1000000), .int .i64 1000000] rfl Mp_ ?_; (with_reducible refine (spec_l01In.calls a0 (-1000000) 1000000 t123 _ A2.out).mono ?_); rintro e w' ⟨rfl, ⟨nd, rfl⟩⟩; refine ⟨_, rfl, ?_⟩))
 go_ret
 exact ⟨by first | rfl | (simp; done) | (simp [*]; done), by repeat (first | exact Drawn0.refl _ | apply Drawn0.step)⟩

/-! ### spec_l03Bit: function 76 -/
def spec_l03Bit.f (a0 : Bool) : Option (Int) := if a0 = true then (some 1) else (some 0)
set_option maxHeartbeats 8000000 in
set_option maxRecDepth 100000 in
theorem spec_l03Bit.calls (a0 : Bool) (r : Int) (w : World) (h : spec_l03Bit.f a0 = some r) :
  Calls Try.prog 76 #[.bool a0] w fun e w' => e = .returned (.int .i64 r) ∧ Drawn0 w w' := by
 have H : (if a0 = true then (some 1) else (some 0)) = some r := h
 clear h
 by_cases c2 : a0 = true
 ·subst c2
  have H1 : (some 1) = some r := by rw [if_pos rfl] at H; exact H
  clear H
  have H := H1
  clear H1
  obtain rfl := Option.some.inj H
  go_enter Try.func76, Try.ntmps76
  go_wp2
  go_ret
  exact ⟨by first | rfl | (simp; done) | (simp [*]; done), by repeat (first | exact Drawn0.refl _ | apply Drawn0.step)⟩
 ·replace c2 := Bool.eq_false_iff.mpr c2
  subst c2
  have H1 : (some 0) = some r := by rw [if_neg (show ¬ (false = true) by decide)] at H; exact H
  clear H
  have H := H1
  clear H1
  obtain rfl := Option.some.inj H
  go_enter Try.func76, Try.ntmps76
  go_wp2
  go_ret
  exact ⟨by first | rfl | (simp; done) | (simp [*]; done), by repeat (first | exact Drawn0.refl _ | apply Drawn0.step)⟩

end Go.Proofs.Ytfgobagibkbocaa.PFnValues
