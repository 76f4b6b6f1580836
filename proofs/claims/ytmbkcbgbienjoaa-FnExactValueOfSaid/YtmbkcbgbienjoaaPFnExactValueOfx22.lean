/- The machine side of the law FnExactValueOf: for each function that it reaches, a Lean function and its contract. Written by a program of this session's over the kit's print. No condition. -/
import Derived.Test.YtmbkcbgbienjoaaCmq
import Derived.Test.YtmbkcbgbienjoaaPFnExactValueOfx0
import Derived.Test.YtmbkcbgbienjoaaPFnExactValueOfx16
import Derived.Test.YtmbkcbgbienjoaaPFnExactValueOfx21
namespace Go.Proofs.Ytmbkcbgbienjoaa.PFnExactValueOf
open Go.RowKit Go.Proofs.YtmbkcbgbienjoaaW.PrintWords Go.Proofs.YtmbkcbgbienjoaaW.PrintLast Go.Proofs.YtmbkcbgbienjoaaW.PrintMore Go.Proofs.Ytmbkcbgbienjoaa.Cmp
attribute [local go_sem] max2_int min2_int max_two min_two max_three min_three max_four min_four   -- for this text's walks alone
set_option linter.unusedVariables false
set_option maxHeartbeats 8000000
set_option maxRecDepth 100000
set_option linter.unusedSimpArgs false

/-! ### impl_Negated: function 107 -/
def impl_Negated.f (a0 : Int) : Option (Int × Int) := (impl_ValOk.f a0).bind fun t515 => (if t515 = true then (some (wrap64 (-a0), 0)) else (some (0, 1)))
theorem impl_Negated.calls (a0 : Int) (r1 : Int) (r2 : Int) (w : World) (h : impl_Negated.f a0 = some (r1, r2)) :
  Calls Try.prog 107 #[.int .i64 a0] w fun e w' => e = .returned (.tuple #[.int .i64 r1, .int .i64 r2]) ∧ Drawn0 w w' := by
 have H : ((impl_ValOk.f a0).bind fun t515 => (if t515 = true then (some (wrap64 (-a0), 0)) else (some (0, 1)))) = some (r1, r2) := h
 clear h
 obtain ⟨t515, A2, H⟩ := Bo_ H
 by_cases c3 : t515 = true
 ·subst c3
  rw [if_pos rfl] at H
  simp only [Option.some.injEq, Prod.mk.injEq] at H
  obtain ⟨rfl, rfl⟩ := H
  go_enter Try.func107, Try.ntmps107
  go_wp2_with (first | (refine Gl_ (some 5) Try.func103 ((impl_ValOk.calls a0 true _ A2.out).mono ?_); rintro e w' ⟨rfl, ⟨nd, rfl⟩⟩; refine ⟨_, rfl, ?_⟩))
  go_ret2
  exact ⟨by first | rfl | (simp; done) | (simp [*]; done), by repeat (first | exact Drawn0.refl _ | apply Drawn0.step)⟩
 ·replace c3 := Bool.eq_false_iff.mpr c3
  subst c3
  rw [if_neg Ff_] at H
  simp only [Option.some.injEq, Prod.mk.injEq] at H
  obtain ⟨rfl, rfl⟩ := H
  go_enter Try.func107, Try.ntmps107
  go_wp2_with (first | (refine Gl_ (some 5) Try.func103 ((impl_ValOk.calls a0 false _ A2.out).mono ?_); rintro e w' ⟨rfl, ⟨nd, rfl⟩⟩; refine ⟨_, rfl, ?_⟩))
  go_ret2
  exact ⟨by first | rfl | (simp; done) | (simp [*]; done), by repeat (first | exact Drawn0.refl _ | apply Drawn0.step)⟩

/-! ### impl_Calc: function 108 -/
mutual
def impl_Calc.j0 : Nat → Int → Int → Int → Bool → Option (Int × Int)
 | 0, _, _, _, _ => none
 | k + 1, x0, x1, x2, x21 => if x21 = true then (some (0, 1)) else (if x2 = 0 then (if x0 = 4 then (impl_Calc.j1 k x0 x1 x2 true) else (impl_Calc.j1 k x0 x1 x2 (x0 == 5))) else (impl_Calc.j1 k x0 x1 x2 false))
def impl_Calc.j1 : Nat → Int → Int → Int → Bool → Option (Int × Int)
 | 0, _, _, _, _ => none
 | k + 1, x0, x1, x2, x31 => if x31 = true then (some (0, 2)) else (if x0 = 1 then ((impl_ValOk.f (wrap64 (x1 + x2))).bind fun t519 => (if t519 = true then (some (wrap64 (x1 + x2), 0)) else (some (0, 1)))) else (if x0 = 2 then ((impl_ValOk.f (wrap64 (x1 - x2))).bind fun t520 => (if t520 = true then (some (wrap64 (x1 - x2), 0)) else (some (0, 1)))) else (if x0 = 3 then ((impl_ValOk.f (wrap64 (x1 * x2))).bind fun t521 => (if t521 = true then (some (wrap64 (x1 * x2), 0)) else (some (0, 1)))) else (if x0 = 4 then (if x2 = 0 then (none) else ((impl_ValOk.f (wrap64 (Int.tdiv x1 x2))).bind fun t522 => (if t522 = true then (some (wrap64 (Int.tdiv x1 x2), 0)) else (some (0, 1))))) else (if x0 = 5 then (if x2 = 0 then (none) else ((impl_ValOk.f (Int.tmod x1 x2)).bind fun t523 => (if t523 = true then (some (Int.tmod x1 x2, 0)) else (some (0, 1))))) else (if x0 = 6 then ((impl_truth.f (decide (x1 < x2))).bind fun t524 => ((impl_ValOk.f t524).bind fun t525 => (if t525 = true then (some (t524, 0)) else (some (0, 1))))) else (if x0 = 7 then ((impl_truth.f (x1 == x2)).bind fun t526 => ((impl_ValOk.f t526).bind fun t527 => (if t527 = true then (some (t526, 0)) else (some (0, 1))))) else (if x0 = 8 then (if x1 = 0 then ((impl_truth.f false).bind fun t528 => ((impl_ValOk.f t528).bind fun t529 => (if t529 = true then (some (t528, 0)) else (some (0, 1))))) else ((impl_truth.f (x2 != 0)).bind fun t530 => ((impl_ValOk.f t530).bind fun t531 => (if t531 = true then (some (t530, 0)) else (some (0, 1)))))) else (if x0 = 9 then (if x1 = 0 then ((impl_truth.f (x2 != 0)).bind fun t532 => ((impl_ValOk.f t532).bind fun t533 => (if t533 = true then (some (t532, 0)) else (some (0, 1))))) else ((impl_truth.f true).bind fun t534 => ((impl_ValOk.f t534).bind fun t535 => (if t535 = true then (some (t534, 0)) else (some (0, 1)))))) else ((impl_ValOk.f 0).bind fun t536 => (if t536 = true then (some (0, 0)) else (some (0, 1)))))))))))))
end
def impl_Calc.f (k : Nat) (a0 : Int) (a1 : Int) (a2 : Int) : Option (Int × Int) := (impl_within.f a0 1 9).bind fun t516 => (if t516 = true then ((impl_ValOk.f a1).bind fun t517 => (if t517 = true then ((impl_ValOk.f a2).bind fun t518 => (impl_Calc.j0 k a0 a1 a2 (!t518))) else (impl_Calc.j0 k a0 a1 a2 true))) else (impl_Calc.j0 k a0 a1 a2 true))
theorem impl_Calc.calls (k : Nat) (a0 : Int) (a1 : Int) (a2 : Int) (r1 : Int) (r2 : Int) (w : World) (h : impl_Calc.f k a0 a1 a2 = some (r1, r2)) :
  Calls Try.prog 108 #[.int .i64 a0, .int .i64 a1, .int .i64 a2] w fun e w' => e = .returned (.tuple #[.int .i64 r1, .int .i64 r2]) ∧ Drawn0 w w' := by
 have H : ((impl_within.f a0 1 9).bind fun t516 => (if t516 = true then ((impl_ValOk.f a1).bind fun t517 => (if t517 = true then ((impl_ValOk.f a2).bind fun t518 => (impl_Calc.j0 k a0 a1 a2 (!t518))) else (impl_Calc.j0 k a0 a1 a2 true))) else (impl_Calc.j0 k a0 a1 a2 true))) = some (r1, r2) := h
 clear h
 have HC4 := Aside0.mk H
 clear H
 go_enter Try.func108, Try.ntmps108
 go_upto_region 1 with (fail)
 go_cut [21] (fun v21 wc => ∃ (kq : Nat) (x21_3 : Bool), v21 = .bool x21_3 ∧ Aside0 (impl_Calc.j0 kq a0 a1 a2 x21_3 = some (r1, r2)) ∧ Aside0 (kq ≤ k) ∧ Drawn0 w wc)
 case first =>
  have H := HC4.out
  clear HC4
  obtain ⟨t516, A5, H⟩ := Bo_ H
  by_cases c6 : t516 = true
  ·subst c6
   rw [if_pos rfl] at H
   obtain ⟨t517, A7, H⟩ := Bo_ H
   by_cases c8 : t517 = true
   ·subst c8
    rw [if_pos rfl] at H
    obtain ⟨t518, A9, H⟩ := Bo_ H
    have H' := Aside0.mk H
    clear H
    go_wp2_with (first | (refine Gl_ (some 10) Try.func79 ((impl_within.calls a0 1 9 true _ A5.out).mono ?_); rintro e w' ⟨rfl, ⟨nd, rfl⟩⟩; refine ⟨_, rfl, ?_⟩) | (go_at_call 103; (with_reducible refine (impl_ValOk.calls a1 true _ A7.out).mono ?_); rintro e w' ⟨rfl, ⟨nd, rfl⟩⟩) | (go_at_call 103; (with_reducible refine (impl_ValOk.calls a2 t518 _ A9.out).mono ?_); rintro e w' ⟨rfl, ⟨nd, rfl⟩⟩))
    go_meet
    case rel => exact ⟨_, (!t518), Rr_, H', ⟨by first | omega | exact Nat.le_refl _⟩, by repeat (first | exact Drawn0.refl _ | apply Drawn0.step)⟩
   ·replace c8 := Bool.eq_false_iff.mpr c8
    subst c8
    rw [if_neg Ff_] at H
    have H' := Aside0.mk H
    clear H
    go_wp2_with (first | (refine Gl_ (some 10) Try.func79 ((impl_within.calls a0 1 9 true _ A5.out).mono ?_); rintro e w' ⟨rfl, ⟨nd, rfl⟩⟩; refine ⟨_, rfl, ?_⟩) | (go_at_call 103; (with_reducible refine (impl_ValOk.calls a1 false _ A7.out).mono ?_); rintro e w' ⟨rfl, ⟨nd, rfl⟩⟩))
    go_meet
    case rel => exact ⟨_, (true), Rr_, H', ⟨by first | omega | exact Nat.le_refl _⟩, by repeat (first | exact Drawn0.refl _ | apply Drawn0.step)⟩
  ·replace c6 := Bool.eq_false_iff.mpr c6
   subst c6
   rw [if_neg Ff_] at H
   have H' := Aside0.mk H
   clear H
   go_wp2_with (first | (refine Gl_ (some 10) Try.func79 ((impl_within.calls a0 1 9 false _ A5.out).mono ?_); rintro e w' ⟨rfl, ⟨nd, rfl⟩⟩; refine ⟨_, rfl, ?_⟩))
   go_meet
   case rel => exact ⟨_, (true), Rr_, H', ⟨by first | omega | exact Nat.le_refl _⟩, by repeat (first | exact Drawn0.refl _ | apply Drawn0.step)⟩
 case rest =>
  clear HC4
  obtain ⟨kq, x21_3, rfl, HA, HJ3, ⟨mc3, rfl⟩⟩ := hcut
  cases kq with
  | zero => exact absurd HA.out (by simp [impl_Calc.j0])
  | succ kj3 =>
   have H := HA.out
   clear HA
   simp only [impl_Calc.j0] at H
   by_cases c10 : x21_3 = true
   ·subst c10
    rw [if_pos rfl] at H
    simp only [Option.some.injEq, Prod.mk.injEq] at H
    obtain ⟨rfl, rfl⟩ := H
    go_wp2
    go_ret2
    exact ⟨by first | rfl | (simp; done) | (simp [*]; done), by repeat (first | exact Drawn0.refl _ | apply Drawn0.step)⟩
   ·replace c10 := Bool.eq_false_iff.mpr c10
    subst c10
    rw [if_neg Ff_] at H
    have HC11 := Aside0.mk H
    clear H
    go_upto_region 3 with (fail)
    go_cut [31] (fun v31 wc => ∃ (kq : Nat) (x31_10 : Bool), v31 = .bool x31_10 ∧ Aside0 (impl_Calc.j1 kq a0 a1 a2 x31_10 = some (r1, r2)) ∧ Aside0 (kq ≤ kj3) ∧ Drawn0 w wc)
    case first =>
     have H := HC11.out
     clear HC11
     by_cases c12 : a2 = 0
     ·rw [if_pos c12] at H
      have c12b0 := beq_iff_eq.mpr c12
      have c12b1 := bne_eq_false_iff_eq.mpr c12
      clear c12
      (first | rw [c12b0] | (simp only [i64_w, i32_w]; rw [c12b0]) | skip)
      by_cases c13 : a0 = 4
      ·rw [if_pos c13] at H
       have c13b0 := beq_iff_eq.mpr c13
       have c13b1 := bne_eq_false_iff_eq.mpr c13
       clear c13
       have H' := Aside0.mk H
       clear H
       go_wp2
       go_meet
       case rel => exact ⟨_, (true), Rr_, H', ⟨by have := HJ3.out; first | omega | exact Nat.le_refl _⟩, by repeat (first | exact Drawn0.refl _ | apply Drawn0.step)⟩
      ·rw [if_neg c13] at H
       have c13b0 := beq_eq_false_iff_ne.mpr c13
       have c13b1 := bne_iff_ne.mpr c13
       have H' := Aside0.mk H
       clear H
       go_wp2
       go_meet
       case rel => exact ⟨_, ((a0 == 5)), Rr_, H', ⟨by have := HJ3.out; first | omega | exact Nat.le_refl _⟩, by repeat (first | exact Drawn0.refl _ | apply Drawn0.step)⟩
     ·rw [if_neg c12] at H
      have c12b0 := beq_eq_false_iff_ne.mpr c12
      have c12b1 := bne_iff_ne.mpr c12
      (first | rw [c12b0] | (simp only [i64_w, i32_w]; rw [c12b0]) | skip)
      have H' := Aside0.mk H
      clear H
      go_wp2
      go_meet
      case rel => exact ⟨_, (false), Rr_, H', ⟨by have := HJ3.out; first | omega | exact Nat.le_refl _⟩, by repeat (first | exact Drawn0.refl _ | apply Drawn0.step)⟩
    case rest =>
     clear HC11
     obtain ⟨kq, x31_10, rfl, HA, HJ10, ⟨mc10, rfl⟩⟩ := hcut
     cases kq with
     | zero => exact absurd HA.out (by simp [impl_Calc.j1])
     | succ kj10 =>
      have H := HA.out
      clear HA
      simp only [impl_Calc.j1] at H
      by_cases c14 : x31_10 = true
      ·subst c14
       rw [if_pos rfl] at H
       simp only [Option.some.injEq, Prod.mk.injEq] at H
       obtain ⟨rfl, rfl⟩ := H
       go_wp2
       go_ret2
       exact ⟨by first | rfl | (simp; done) | (simp [*]; done), by repeat (first | exact Drawn0.refl _ | apply Drawn0.step)⟩
      ·replace c14 := Bool.eq_false_iff.mpr c14
       subst c14
       rw [if_neg Ff_] at H
       by_cases c15 : a0 = 1
       ·rw [if_pos c15] at H
        have c15b0 := beq_iff_eq.mpr c15
        have c15b1 := bne_eq_false_iff_eq.mpr c15
        clear c15
        obtain ⟨t519, A16, H⟩ := Bo_ H
        by_cases c17 : t519 = true
        ·subst c17
         rw [if_pos rfl] at H
         simp only [Option.some.injEq, Prod.mk.injEq] at H
         obtain ⟨rfl, rfl⟩ := H
         go_wp2_with (first | (refine Gl_ (some 89) Try.func103 ((impl_ValOk.calls (wrap64 (a1 + a2)) true _ A16.out).mono ?_); rintro e w' ⟨rfl, ⟨nd, rfl⟩⟩; refine ⟨_, rfl, ?_⟩))
         go_ret2
         exact ⟨by first | rfl | (simp; done) | (simp [*]; done), by repeat (first | exact Drawn0.refl _ | apply Drawn0.step)⟩
        ·replace c17 := Bool.eq_false_iff.mpr c17
         subst c17
         rw [if_neg Ff_] at H
         simp only [Option.some.injEq, Prod.mk.injEq] at H
         obtain ⟨rfl, rfl⟩ := H
         go_wp2_with (first | (refine Gl_ (some 89) Try.func103 ((impl_ValOk.calls (wrap64 (a1 + a2)) false _ A16.out).mono ?_); rintro e w' ⟨rfl, ⟨nd, rfl⟩⟩; refine ⟨_, rfl, ?_⟩))
         go_ret2
         exact ⟨by first | rfl | (simp; done) | (simp [*]; done), by repeat (first | exact Drawn0.refl _ | apply Drawn0.step)⟩
       ·rw [if_neg c15] at H
        have c15b0 := beq_eq_false_iff_ne.mpr c15
        have c15b1 := bne_iff_ne.mpr c15
        by_cases c18 : a0 = 2
        ·rw [if_pos c18] at H
         have c18b0 := beq_iff_eq.mpr c18
         have c18b1 := bne_eq_false_iff_eq.mpr c18
         clear c18
         obtain ⟨t520, A19, H⟩ := Bo_ H
         by_cases c20 : t520 = true
         ·subst c20
          rw [if_pos rfl] at H
          simp only [Option.some.injEq, Prod.mk.injEq] at H
          obtain ⟨rfl, rfl⟩ := H
          go_wp2_with (first | (refine Gl_ (some 89) Try.func103 ((impl_ValOk.calls (wrap64 (a1 - a2)) true _ A19.out).mono ?_); rintro e w' ⟨rfl, ⟨nd, rfl⟩⟩; refine ⟨_, rfl, ?_⟩))
          go_ret2
          exact ⟨by first | rfl | (simp; done) | (simp [*]; done), by repeat (first | exact Drawn0.refl _ | apply Drawn0.step)⟩
         ·replace c20 := Bool.eq_false_iff.mpr c20
          subst c20
          rw [if_neg Ff_] at H
          simp only [Option.some.injEq, Prod.mk.injEq] at H
          obtain ⟨rfl, rfl⟩ := H
          go_wp2_with (first | (refine Gl_ (some 89) Try.func103 ((impl_ValOk.calls (wrap64 (a1 - a2)) false _ A19.out).mono ?_); rintro e w' ⟨rfl, ⟨nd, rfl⟩⟩; refine ⟨_, rfl, ?_⟩))
          go_ret2
          exact ⟨by first | rfl | (simp; done) | (simp [*]; done), by repeat (first | exact Drawn0.refl _ | apply Drawn0.step)⟩
        ·rw [if_neg c18] at H
         have c18b0 := beq_eq_false_iff_ne.mpr c18
         have c18b1 := bne_iff_ne.mpr c18
         by_cases c21 : a0 = 3
         ·rw [if_pos c21] at H
          have c21b0 := beq_iff_eq.mpr c21
          have c21b1 := bne_eq_false_iff_eq.mpr c21
          clear c21
          obtain ⟨t521, A22, H⟩ := Bo_ H
          by_cases c23 : t521 = true
          ·subst c23
           rw [if_pos rfl] at H
           simp only [Option.some.injEq, Prod.mk.injEq] at H
           obtain ⟨rfl, rfl⟩ := H
           go_wp2_with (first | (refine Gl_ (some 89) Try.func103 ((impl_ValOk.calls (wrap64 (a1 * a2)) true _ A22.out).mono ?_); rintro e w' ⟨rfl, ⟨nd, rfl⟩⟩; refine ⟨_, rfl, ?_⟩))
           go_ret2
           exact ⟨by first | rfl | (simp; done) | (simp [*]; done), by repeat (first | exact Drawn0.refl _ | apply Drawn0.step)⟩
          ·replace c23 := Bool.eq_false_iff.mpr c23
           subst c23
           rw [if_neg Ff_] at H
           simp only [Option.some.injEq, Prod.mk.injEq] at H
           obtain ⟨rfl, rfl⟩ := H
           go_wp2_with (first | (refine Gl_ (some 89) Try.func103 ((impl_ValOk.calls (wrap64 (a1 * a2)) false _ A22.out).mono ?_); rintro e w' ⟨rfl, ⟨nd, rfl⟩⟩; refine ⟨_, rfl, ?_⟩))
           go_ret2
           exact ⟨by first | rfl | (simp; done) | (simp [*]; done), by repeat (first | exact Drawn0.refl _ | apply Drawn0.step)⟩
         ·rw [if_neg c21] at H
          have c21b0 := beq_eq_false_iff_ne.mpr c21
          have c21b1 := bne_iff_ne.mpr c21
          by_cases c24 : a0 = 4
          ·rw [if_pos c24] at H
           have c24b0 := beq_iff_eq.mpr c24
           have c24b1 := bne_eq_false_iff_eq.mpr c24
           clear c24
           by_cases c25 : a2 = 0
           ·rw [if_pos c25] at H
            exact absurd H (by simp)
           ·rw [if_neg c25] at H
            have c25b0 := beq_eq_false_iff_ne.mpr c25
            have c25b1 := bne_iff_ne.mpr c25
            obtain ⟨t522, A26, H⟩ := Bo_ H
            by_cases c27 : t522 = true
            ·subst c27
             rw [if_pos rfl] at H
             simp only [Option.some.injEq, Prod.mk.injEq] at H
             obtain ⟨rfl, rfl⟩ := H
             go_wp2_with (first | (refine Gl_ (some 89) Try.func103 ((impl_ValOk.calls (wrap64 (Int.tdiv a1 a2)) true _ A26.out).mono ?_); rintro e w' ⟨rfl, ⟨nd, rfl⟩⟩; refine ⟨_, rfl, ?_⟩))
             go_ret2
             exact ⟨by first | rfl | (simp; done) | (simp [*]; done), by repeat (first | exact Drawn0.refl _ | apply Drawn0.step)⟩
            ·replace c27 := Bool.eq_false_iff.mpr c27
             subst c27
             rw [if_neg Ff_] at H
             simp only [Option.some.injEq, Prod.mk.injEq] at H
             obtain ⟨rfl, rfl⟩ := H
             go_wp2_with (first | (refine Gl_ (some 89) Try.func103 ((impl_ValOk.calls (wrap64 (Int.tdiv a1 a2)) false _ A26.out).mono ?_); rintro e w' ⟨rfl, ⟨nd, rfl⟩⟩; refine ⟨_, rfl, ?_⟩))
             go_ret2
             exact ⟨by first | rfl | (simp; done) | (simp [*]; done), by repeat (first | exact Drawn0.refl _ | apply Drawn0.step)⟩
          ·rw [if_neg c24] at H
           have c24b0 := beq_eq_false_iff_ne.mpr c24
           have c24b1 := bne_iff_ne.mpr c24
           by_cases c28 : a0 = 5
           ·rw [if_pos c28] at H
            have c28b0 := beq_iff_eq.mpr c28
            have c28b1 := bne_eq_false_iff_eq.mpr c28
            clear c28
            by_cases c29 : a2 = 0
            ·rw [if_pos c29] at H
             exact absurd H (by simp)
            ·rw [if_neg c29] at H
             have c29b0 := beq_eq_false_iff_ne.mpr c29
             have c29b1 := bne_iff_ne.mpr c29
             obtain ⟨t523, A30, H⟩ := Bo_ H
             by_cases c31 : t523 = true
             ·subst c31
              rw [if_pos rfl] at H
              simp only [Option.some.injEq, Prod.mk.injEq] at H
              obtain ⟨rfl, rfl⟩ := H
              go_wp2_with (first | (refine Gl_ (some 89) Try.func103 ((impl_ValOk.calls (Int.tmod a1 a2) true _ A30.out).mono ?_); rintro e w' ⟨rfl, ⟨nd, rfl⟩⟩; refine ⟨_, rfl, ?_⟩))
              go_ret2
              exact ⟨by first | rfl | (simp; done) | (simp [*]; done), by repeat (first | exact Drawn0.refl _ | apply Drawn0.step)⟩
             ·replace c31 := Bool.eq_false_iff.mpr c31
              subst c31
              rw [if_neg Ff_] at H
              simp only [Option.some.injEq, Prod.mk.injEq] at H
              obtain ⟨rfl, rfl⟩ := H
              go_wp2_with (first | (refine Gl_ (some 89) Try.func103 ((impl_ValOk.calls (Int.tmod a1 a2) false _ A30.out).mono ?_); rintro e w' ⟨rfl, ⟨nd, rfl⟩⟩; refine ⟨_, rfl, ?_⟩))
              go_ret2
              exact ⟨by first | rfl | (simp; done) | (simp [*]; done), by repeat (first | exact Drawn0.refl _ | apply Drawn0.step)⟩
           ·rw [if_neg c28] at H
            have c28b0 := beq_eq_false_iff_ne.mpr c28
            have c28b1 := bne_iff_ne.mpr c28
            by_cases c32 : a0 = 6
            ·rw [if_pos c32] at H
             have c32b0 := beq_iff_eq.mpr c32
             have c32b1 := bne_eq_false_iff_eq.mpr c32
             clear c32
             obtain ⟨t524, A33, H⟩ := Bo_ H
             obtain ⟨t525, A34, H⟩ := Bo_ H
             by_cases c35 : t525 = true
             ·subst c35
              rw [if_pos rfl] at H
              simp only [Option.some.injEq, Prod.mk.injEq] at H
              obtain ⟨rfl, rfl⟩ := H
              go_wp2_with (first | (refine Gl_ (some 63) Try.func140 ((impl_truth.calls (decide (a1 < a2)) t524 _ A33.out).mono ?_); rintro e w' ⟨rfl, ⟨nd, rfl⟩⟩; refine ⟨_, rfl, ?_⟩) | (refine Gl_ (some 89) Try.func103 ((impl_ValOk.calls t524 true _ A34.out).mono ?_); rintro e w' ⟨rfl, ⟨nd, rfl⟩⟩; refine ⟨_, rfl, ?_⟩))
              go_ret2
              exact ⟨by first | rfl | (simp; done) | (simp [*]; done), by repeat (first | exact Drawn0.refl _ | apply Drawn0.step)⟩
             ·replace c35 := Bool.eq_false_iff.mpr c35
              subst c35
              rw [if_neg Ff_] at H
              simp only [Option.some.injEq, Prod.mk.injEq] at H
              obtain ⟨rfl, rfl⟩ := H
              go_wp2_with (first | (refine Gl_ (some 63) Try.func140 ((impl_truth.calls (decide (a1 < a2)) t524 _ A33.out).mono ?_); rintro e w' ⟨rfl, ⟨nd, rfl⟩⟩; refine ⟨_, rfl, ?_⟩) | (refine Gl_ (some 89) Try.func103 ((impl_ValOk.calls t524 false _ A34.out).mono ?_); rintro e w' ⟨rfl, ⟨nd, rfl⟩⟩; refine ⟨_, rfl, ?_⟩))
              go_ret2
              exact ⟨by first | rfl | (simp; done) | (simp [*]; done), by repeat (first | exact Drawn0.refl _ | apply Drawn0.step)⟩
            ·rw [if_neg c32] at H
             have c32b0 := beq_eq_false_iff_ne.mpr c32
             have c32b1 := bne_iff_ne.mpr c32
             by_cases c36 : a0 = 7
             ·rw [if_pos c36] at H
              have c36b0 := beq_iff_eq.mpr c36
              have c36b1 := bne_eq_false_iff_eq.mpr c36
              clear c36
              obtain ⟨t526, A37, H⟩ := Bo_ H
              obtain ⟨t527, A38, H⟩ := Bo_ H
              by_cases c39 : t527 = true
              ·subst c39
               rw [if_pos rfl] at H
               simp only [Option.some.injEq, Prod.mk.injEq] at H
               obtain ⟨rfl, rfl⟩ := H
               go_wp2_with (first | (refine Gl_ (some 69) Try.func140 ((impl_truth.calls (a1 == a2) t526 _ A37.out).mono ?_); rintro e w' ⟨rfl, ⟨nd, rfl⟩⟩; refine ⟨_, rfl, ?_⟩) | (refine Gl_ (some 89) Try.func103 ((impl_ValOk.calls t526 true _ A38.out).mono ?_); rintro e w' ⟨rfl, ⟨nd, rfl⟩⟩; refine ⟨_, rfl, ?_⟩))
               go_ret2
               exact ⟨by first | rfl | (simp; done) | (simp [*]; done), by repeat (first | exact Drawn0.refl _ | apply Drawn0.step)⟩
              ·replace c39 := Bool.eq_false_iff.mpr c39
               subst c39
               rw [if_neg Ff_] at H
               simp only [Option.some.injEq, Prod.mk.injEq] at H
               obtain ⟨rfl, rfl⟩ := H
               go_wp2_with (first | (refine Gl_ (some 69) Try.func140 ((impl_truth.calls (a1 == a2) t526 _ A37.out).mono ?_); rintro e w' ⟨rfl, ⟨nd, rfl⟩⟩; refine ⟨_, rfl, ?_⟩) | (refine Gl_ (some 89) Try.func103 ((impl_ValOk.calls t526 false _ A38.out).mono ?_); rintro e w' ⟨rfl, ⟨nd, rfl⟩⟩; refine ⟨_, rfl, ?_⟩))
               go_ret2
               exact ⟨by first | rfl | (simp; done) | (simp [*]; done), by repeat (first | exact Drawn0.refl _ | apply Drawn0.step)⟩
             ·rw [if_neg c36] at H
              have c36b0 := beq_eq_false_iff_ne.mpr c36
              have c36b1 := bne_iff_ne.mpr c36
              by_cases c40 : a0 = 8
              ·rw [if_pos c40] at H
               have c40b0 := beq_iff_eq.mpr c40
               have c40b1 := bne_eq_false_iff_eq.mpr c40
               clear c40
               by_cases c41 : a1 = 0
               ·rw [if_pos c41] at H
                have c41b0 := beq_iff_eq.mpr c41
                have c41b1 := bne_eq_false_iff_eq.mpr c41
                clear c41
                obtain ⟨t528, A42, H⟩ := Bo_ H
                obtain ⟨t529, A43, H⟩ := Bo_ H
                by_cases c44 : t529 = true
                ·subst c44
                 rw [if_pos rfl] at H
                 simp only [Option.some.injEq, Prod.mk.injEq] at H
                 obtain ⟨rfl, rfl⟩ := H
                 go_wp2_with (first | (refine Gl_ (some 78) Try.func140 ((impl_truth.calls false t528 _ A42.out).mono ?_); rintro e w' ⟨rfl, ⟨nd, rfl⟩⟩; refine ⟨_, rfl, ?_⟩) | (refine Gl_ (some 89) Try.func103 ((impl_ValOk.calls t528 true _ A43.out).mono ?_); rintro e w' ⟨rfl, ⟨nd, rfl⟩⟩; refine ⟨_, rfl, ?_⟩))
                 go_ret2
                 exact ⟨by first | rfl | (simp; done) | (simp [*]; done), by repeat (first | exact Drawn0.refl _ | apply Drawn0.step)⟩
                ·replace c44 := Bool.eq_false_iff.mpr c44
                 subst c44
                 rw [if_neg Ff_] at H
                 simp only [Option.some.injEq, Prod.mk.injEq] at H
                 obtain ⟨rfl, rfl⟩ := H
                 go_wp2_with (first | (refine Gl_ (some 78) Try.func140 ((impl_truth.calls false t528 _ A42.out).mono ?_); rintro e w' ⟨rfl, ⟨nd, rfl⟩⟩; refine ⟨_, rfl, ?_⟩) | (refine Gl_ (some 89) Try.func103 ((impl_ValOk.calls t528 false _ A43.out).mono ?_); rintro e w' ⟨rfl, ⟨nd, rfl⟩⟩; refine ⟨_, rfl, ?_⟩))
                 go_ret2
                 exact ⟨by first | rfl | (simp; done) | (simp [*]; done), by repeat (first | exact Drawn0.refl _ | apply Drawn0.step)⟩
               ·rw [if_neg c41] at H
                have c41b0 := beq_eq_false_iff_ne.mpr c41
                have c41b1 := bne_iff_ne.mpr c41
                obtain ⟨t530, A45, H⟩ := Bo_ H
                obtain ⟨t531, A46, H⟩ := Bo_ H
                by_cases c47 : t531 = true
                ·subst c47
                 rw [if_pos rfl] at H
                 simp only [Option.some.injEq, Prod.mk.injEq] at H
                 obtain ⟨rfl, rfl⟩ := H
                 go_wp2_with (first | (refine Gl_ (some 78) Try.func140 ((impl_truth.calls (a2 != 0) t530 _ A45.out).mono ?_); rintro e w' ⟨rfl, ⟨nd, rfl⟩⟩; refine ⟨_, rfl, ?_⟩) | (refine Gl_ (some 89) Try.func103 ((impl_ValOk.calls t530 true _ A46.out).mono ?_); rintro e w' ⟨rfl, ⟨nd, rfl⟩⟩; refine ⟨_, rfl, ?_⟩))
                 go_ret2
                 exact ⟨by first | rfl | (simp; done) | (simp [*]; done), by repeat (first | exact Drawn0.refl _ | apply Drawn0.step)⟩
                ·replace c47 := Bool.eq_false_iff.mpr c47
                 subst c47
                 rw [if_neg Ff_] at H
                 simp only [Option.some.injEq, Prod.mk.injEq] at H
                 obtain ⟨rfl, rfl⟩ := H
                 go_wp2_with (first | (refine Gl_ (some 78) Try.func140 ((impl_truth.calls (a2 != 0) t530 _ A45.out).mono ?_); rintro e w' ⟨rfl, ⟨nd, rfl⟩⟩; refine ⟨_, rfl, ?_⟩) | (refine Gl_ (some 89) Try.func103 ((impl_ValOk.calls t530 false _ A46.out).mono ?_); rintro e w' ⟨rfl, ⟨nd, rfl⟩⟩; refine ⟨_, rfl, ?_⟩))
                 go_ret2
                 exact ⟨by first | rfl | (simp; done) | (simp [*]; done), by repeat (first | exact Drawn0.refl _ | apply Drawn0.step)⟩
              ·rw [if_neg c40] at H
               have c40b0 := beq_eq_false_iff_ne.mpr c40
               have c40b1 := bne_iff_ne.mpr c40
               by_cases c48 : a0 = 9
               ·rw [if_pos c48] at H
                have c48b0 := beq_iff_eq.mpr c48
                have c48b1 := bne_eq_false_iff_eq.mpr c48
                clear c48
                by_cases c49 : a1 = 0
                ·rw [if_pos c49] at H
                 have c49b0 := beq_iff_eq.mpr c49
                 have c49b1 := bne_eq_false_iff_eq.mpr c49
                 clear c49
                 obtain ⟨t532, A50, H⟩ := Bo_ H
                 obtain ⟨t533, A51, H⟩ := Bo_ H
                 by_cases c52 : t533 = true
                 ·subst c52
                  rw [if_pos rfl] at H
                  simp only [Option.some.injEq, Prod.mk.injEq] at H
                  obtain ⟨rfl, rfl⟩ := H
                  go_wp2_with (first | (refine Gl_ (some 87) Try.func140 ((impl_truth.calls (a2 != 0) t532 _ A50.out).mono ?_); rintro e w' ⟨rfl, ⟨nd, rfl⟩⟩; refine ⟨_, rfl, ?_⟩) | (refine Gl_ (some 89) Try.func103 ((impl_ValOk.calls t532 true _ A51.out).mono ?_); rintro e w' ⟨rfl, ⟨nd, rfl⟩⟩; refine ⟨_, rfl, ?_⟩))
                  go_ret2
                  exact ⟨by first | rfl | (simp; done) | (simp [*]; done), by repeat (first | exact Drawn0.refl _ | apply Drawn0.step)⟩
                 ·replace c52 := Bool.eq_false_iff.mpr c52
                  subst c52
                  rw [if_neg Ff_] at H
                  simp only [Option.some.injEq, Prod.mk.injEq] at H
                  obtain ⟨rfl, rfl⟩ := H
                  go_wp2_with (first | (refine Gl_ (some 87) Try.func140 ((impl_truth.calls (a2 != 0) t532 _ A50.out).mono ?_); rintro e w' ⟨rfl, ⟨nd, rfl⟩⟩; refine ⟨_, rfl, ?_⟩) | (refine Gl_ (some 89) Try.func103 ((impl_ValOk.calls t532 false _ A51.out).mono ?_); rintro e w' ⟨rfl, ⟨nd, rfl⟩⟩; refine ⟨_, rfl, ?_⟩))
                  go_ret2
                  exact ⟨by first | rfl | (simp; done) | (simp [*]; done), by repeat (first | exact Drawn0.refl _ | apply Drawn0.step)⟩
                ·rw [if_neg c49] at H
                 have c49b0 := beq_eq_false_iff_ne.mpr c49
                 have c49b1 := bne_iff_ne.mpr c49
                 obtain ⟨t534, A53, H⟩ := Bo_ H
                 obtain ⟨t535, A54, H⟩ := Bo_ H
                 by_cases c55 : t535 = true
                 ·subst c55
                  rw [if_pos rfl] at H
                  simp only [Option.some.injEq, Prod.mk.injEq] at H
                  obtain ⟨rfl, rfl⟩ := H
                  go_wp2_with (first | (refine Gl_ (some 87) Try.func140 ((impl_truth.calls true t534 _ A53.out).mono ?_); rintro e w' ⟨rfl, ⟨nd, rfl⟩⟩; refine ⟨_, rfl, ?_⟩) | (refine Gl_ (some 89) Try.func103 ((impl_ValOk.calls t534 true _ A54.out).mono ?_); rintro e w' ⟨rfl, ⟨nd, rfl⟩⟩; refine ⟨_, rfl, ?_⟩))
                  go_ret2
                  exact ⟨by first | rfl | (simp; done) | (simp [*]; done), by repeat (first | exact Drawn0.refl _ | apply Drawn0.step)⟩
                 ·replace c55 := Bool.eq_false_iff.mpr c55
                  subst c55
                  rw [if_neg Ff_] at H
                  simp only [Option.some.injEq, Prod.mk.injEq] at H
                  obtain ⟨rfl, rfl⟩ := H
                  go_wp2_with (first | (refine Gl_ (some 87) Try.func140 ((impl_truth.calls true t534 _ A53.out).mono ?_); rintro e w' ⟨rfl, ⟨nd, rfl⟩⟩; refine ⟨_, rfl, ?_⟩) | (refine Gl_ (some 89) Try.func103 ((impl_ValOk.calls t534 false _ A54.out).mono ?_); rintro e w' ⟨rfl, ⟨nd, rfl⟩⟩; refine ⟨_, rfl, ?_⟩))
                  go_ret2
                  exact ⟨by first | rfl | (simp; done) | (simp [*]; done), by repeat (first | exact Drawn0.refl _ | apply Drawn0.step)⟩
               ·rw [if_neg c48] at H
                have c48b0 := beq_eq_false_iff_ne.mpr c48
                have c48b1 := bne_iff_ne.mpr c48
                obtain ⟨t536, A56, H⟩ := Bo_ H
                by_cases c57 : t536 = true
                ·subst c57
                 rw [if_pos rfl] at H
                 simp only [Option.some.injEq, Prod.mk.injEq] at H
                 obtain ⟨rfl, rfl⟩ := H
                 go_wp2_with (first | (refine Gl_ (some 89) Try.func103 ((impl_ValOk.calls 0 true _ A56.out).mono ?_); rintro e w' ⟨rfl, ⟨nd, rfl⟩⟩; refine ⟨_, rfl, ?_⟩))
                 go_ret2
                 exact ⟨by first | rfl | (simp; done) | (simp [*]; done), by repeat (first | exact Drawn0.refl _ | apply Drawn0.step)⟩
                ·replace c57 := Bool.eq_false_iff.mpr c57
                 subst c57
                 rw [if_neg Ff_] at H
                 simp only [Option.some.injEq, Prod.mk.injEq] at H
                 obtain ⟨rfl, rfl⟩ := H
                 go_wp2_with (first | (refine Gl_ (some 89) Try.func103 ((impl_ValOk.calls 0 false _ A56.out).mono ?_); rintro e w' ⟨rfl, ⟨nd, rfl⟩⟩; refine ⟨_, rfl, ?_⟩))
                 go_ret2
                 exact ⟨by first | rfl | (simp; done) | (simp [*]; done), by repeat (first | exact Drawn0.refl _ | apply Drawn0.step)⟩

end Go.Proofs.Ytmbkcbgbienjoaa.PFnExactValueOf
