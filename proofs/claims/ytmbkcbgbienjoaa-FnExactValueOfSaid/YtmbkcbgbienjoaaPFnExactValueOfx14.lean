/- The machine side of the law FnExactValueOf: for each function that it reaches, a Lean function and its contract. Written by a program of this session's over the kit's print. No condition. -/
import Derived.Test.YtmbkcbgbienjoaaCmq
import Derived.Test.YtmbkcbgbienjoaaPFnExactValueOfx0
import Derived.Test.YtmbkcbgbienjoaaPFnExactValueOfx7
import Derived.Test.YtmbkcbgbienjoaaPFnExactValueOfx13
namespace Go.Proofs.Ytmbkcbgbienjoaa.PFnExactValueOf
open Go.RowKit Go.Proofs.YtmbkcbgbienjoaaW.PrintWords Go.Proofs.YtmbkcbgbienjoaaW.PrintLast Go.Proofs.YtmbkcbgbienjoaaW.PrintMore Go.Proofs.Ytmbkcbgbienjoaa.Cmp
attribute [local go_sem] max2_int min2_int max_two min_two max_three min_three max_four min_four   -- for this text's walks alone
set_option linter.unusedVariables false
set_option maxHeartbeats 8000000
set_option maxRecDepth 100000
set_option linter.unusedSimpArgs false

/-! ### spec_Calc: function 138 -/
mutual
def spec_Calc.j0 : Nat → Int → Int → Int → Bool → Option (Int × Int)
 | 0, _, _, _, _ => none
 | k + 1, x0, x1, x2, x21 => if x21 = true then (some (0, 1)) else (if x0 = 1 then ((spec_ValOk.f (wrap64 (x1 + x2))).bind fun t368 => (if t368 = true then (some (wrap64 (x1 + x2), 0)) else (some (0, 1)))) else (if x0 = 2 then ((spec_ValOk.f (wrap64 (x1 - x2))).bind fun t369 => (if t369 = true then (some (wrap64 (x1 - x2), 0)) else (some (0, 1)))) else (if x0 = 3 then ((spec_ValOk.f (wrap64 (x1 * x2))).bind fun t370 => (if t370 = true then (some (wrap64 (x1 * x2), 0)) else (some (0, 1)))) else (if x0 = 4 then (spec_Calc.j1 k x0 x1 x2 0 x0 (x0 == 4)) else (spec_Calc.j1 k x0 x1 x2 0 x0 (x0 == 5))))))
def spec_Calc.j1 : Nat → Int → Int → Int → Int → Int → Bool → Option (Int × Int)
 | 0, _, _, _, _, _, _ => none
 | k + 1, x0, x1, x2, x8, x22, x38 => if x38 = true then (if x2 = 0 then (some (0, 2)) else (if x0 = 5 then ((spec_ValOk.f (Int.tmod x1 x2)).bind fun t371 => (if t371 = true then (some (Int.tmod x1 x2, 0)) else (some (0, 1)))) else ((spec_ValOk.f (wrap64 (Int.tdiv x1 x2))).bind fun t372 => (if t372 = true then (some (wrap64 (Int.tdiv x1 x2), 0)) else (some (0, 1)))))) else (if x22 = 6 then ((spec_l03Bit.f (decide (x1 < x2))).bind fun t373 => ((spec_ValOk.f t373).bind fun t374 => (if t374 = true then (some (t373, 0)) else (some (0, 1))))) else (if x22 = 7 then ((spec_l03Bit.f (x1 == x2)).bind fun t375 => ((spec_ValOk.f t375).bind fun t376 => (if t376 = true then (some (t375, 0)) else (some (0, 1))))) else (if x22 = 8 then (if x1 = 0 then ((spec_l03Bit.f false).bind fun t377 => ((spec_ValOk.f t377).bind fun t378 => (if t378 = true then (some (t377, 0)) else (some (0, 1))))) else ((spec_l03Bit.f (x2 != 0)).bind fun t379 => ((spec_ValOk.f t379).bind fun t380 => (if t380 = true then (some (t379, 0)) else (some (0, 1)))))) else (if x22 = 9 then (if x1 = 0 then ((spec_l03Bit.f (x2 != 0)).bind fun t381 => ((spec_ValOk.f t381).bind fun t382 => (if t382 = true then (some (t381, 0)) else (some (0, 1))))) else ((spec_l03Bit.f true).bind fun t383 => ((spec_ValOk.f t383).bind fun t384 => (if t384 = true then (some (t383, 0)) else (some (0, 1)))))) else ((spec_ValOk.f x8).bind fun t385 => (if t385 = true then (some (x8, 0)) else (some (0, 1))))))))
end
def spec_Calc.f (k : Nat) (a0 : Int) (a1 : Int) (a2 : Int) : Option (Int × Int) := (spec_ValOk.f a1).bind fun t365 => (if t365 = true then ((spec_ValOk.f a2).bind fun t366 => (if t366 = true then ((spec_l01In.f a0 1 9).bind fun t367 => (spec_Calc.j0 k a0 a1 a2 (!t367))) else (spec_Calc.j0 k a0 a1 a2 true))) else (spec_Calc.j0 k a0 a1 a2 true))
theorem spec_Calc.calls (k : Nat) (a0 : Int) (a1 : Int) (a2 : Int) (r1 : Int) (r2 : Int) (w : World) (h : spec_Calc.f k a0 a1 a2 = some (r1, r2)) :
  Calls Try.prog 138 #[.int .i64 a0, .int .i64 a1, .int .i64 a2] w fun e w' => e = .returned (.tuple #[.int .i64 r1, .int .i64 r2]) ∧ Drawn0 w w' := by
 have H : ((spec_ValOk.f a1).bind fun t365 => (if t365 = true then ((spec_ValOk.f a2).bind fun t366 => (if t366 = true then ((spec_l01In.f a0 1 9).bind fun t367 => (spec_Calc.j0 k a0 a1 a2 (!t367))) else (spec_Calc.j0 k a0 a1 a2 true))) else (spec_Calc.j0 k a0 a1 a2 true))) = some (r1, r2) := h
 clear h
 have HC4 := Aside0.mk H
 clear H
 go_enter Try.func138, Try.ntmps138
 go_upto_region 1 with (fail)
 go_cut [21] (fun v21 wc => ∃ (kq : Nat) (x21_3 : Bool), v21 = .bool x21_3 ∧ Aside0 (spec_Calc.j0 kq a0 a1 a2 x21_3 = some (r1, r2)) ∧ Aside0 (kq ≤ k) ∧ Drawn0 w wc)
 case first =>
  have H := HC4.out
  clear HC4
  obtain ⟨t365, A5, H⟩ := Bo_ H
  by_cases c6 : t365 = true
  ·subst c6
   rw [if_pos rfl] at H
   obtain ⟨t366, A7, H⟩ := Bo_ H
   by_cases c8 : t366 = true
   ·subst c8
    rw [if_pos rfl] at H
    obtain ⟨t367, A9, H⟩ := Bo_ H
    have H' := Aside0.mk H
    clear H
    go_wp2_with (first | (refine Gl_ (some 10) Try.func147 ((spec_ValOk.calls a1 true _ A5.out).mono ?_); rintro e w' ⟨rfl, ⟨nd, rfl⟩⟩; refine ⟨_, rfl, ?_⟩) | (go_at_call 147; (with_reducible refine (spec_ValOk.calls a2 true _ A7.out).mono ?_); rintro e w' ⟨rfl, ⟨nd, rfl⟩⟩) | (go_at_call 73; (with_reducible refine (spec_l01In.calls a0 1 9 t367 _ A9.out).mono ?_); rintro e w' ⟨rfl, ⟨nd, rfl⟩⟩))
    go_meet
    case rel => exact ⟨_, (!t367), Rr_, H', ⟨by first | omega | exact Nat.le_refl _⟩, by repeat (first | exact Drawn0.refl _ | apply Drawn0.step)⟩
   ·replace c8 := Bool.eq_false_iff.mpr c8
    subst c8
    rw [if_neg Ff_] at H
    have H' := Aside0.mk H
    clear H
    go_wp2_with (first | (refine Gl_ (some 10) Try.func147 ((spec_ValOk.calls a1 true _ A5.out).mono ?_); rintro e w' ⟨rfl, ⟨nd, rfl⟩⟩; refine ⟨_, rfl, ?_⟩) | (go_at_call 147; (with_reducible refine (spec_ValOk.calls a2 false _ A7.out).mono ?_); rintro e w' ⟨rfl, ⟨nd, rfl⟩⟩))
    go_meet
    case rel => exact ⟨_, (true), Rr_, H', ⟨by first | omega | exact Nat.le_refl _⟩, by repeat (first | exact Drawn0.refl _ | apply Drawn0.step)⟩
  ·replace c6 := Bool.eq_false_iff.mpr c6
   subst c6
   rw [if_neg Ff_] at H
   have H' := Aside0.mk H
   clear H
   go_wp2_with (first | (refine Gl_ (some 10) Try.func147 ((spec_ValOk.calls a1 false _ A5.out).mono ?_); rintro e w' ⟨rfl, ⟨nd, rfl⟩⟩; refine ⟨_, rfl, ?_⟩))
   go_meet
   case rel => exact ⟨_, (true), Rr_, H', ⟨by first | omega | exact Nat.le_refl _⟩, by repeat (first | exact Drawn0.refl _ | apply Drawn0.step)⟩
 case rest =>
  clear HC4
  obtain ⟨kq, x21_3, rfl, HA, HJ3, ⟨mc3, rfl⟩⟩ := hcut
  cases kq with
  | zero => exact absurd HA.out (by simp [spec_Calc.j0])
  | succ kj3 =>
   have H := HA.out
   clear HA
   simp only [spec_Calc.j0] at H
   by_cases c10 : x21_3 = true
   ·subst c10
    rw [if_pos rfl] at H
    simp only [Option.some.injEq, Prod.mk.injEq] at H
    obtain ⟨rfl, rfl⟩ := H
    go_wp2
    go_ret2
    exact ⟨by first | rfl | (simp; done) | (simp [*]; done), by repeat (first | exact Drawn0.refl _ | apply Drawn0.step)⟩
   ·replace c10 := Bool.eq_false_iff.mpr c10
    subst c10
    rw [if_neg Ff_] at H
    by_cases c11 : a0 = 1
    ·rw [if_pos c11] at H
     have c11b0 := beq_iff_eq.mpr c11
     have c11b1 := bne_eq_false_iff_eq.mpr c11
     clear c11
     obtain ⟨t368, A12, H⟩ := Bo_ H
     by_cases c13 : t368 = true
     ·subst c13
      rw [if_pos rfl] at H
      simp only [Option.some.injEq, Prod.mk.injEq] at H
      obtain ⟨rfl, rfl⟩ := H
      go_wp2_with (first | (refine Gl_ (some 82) Try.func147 ((spec_ValOk.calls (wrap64 (a1 + a2)) true _ A12.out).mono ?_); rintro e w' ⟨rfl, ⟨nd, rfl⟩⟩; refine ⟨_, rfl, ?_⟩))
      go_ret2
      exact ⟨by first | rfl | (simp; done) | (simp [*]; done), by repeat (first | exact Drawn0.refl _ | apply Drawn0.step)⟩
     ·replace c13 := Bool.eq_false_iff.mpr c13
      subst c13
      rw [if_neg Ff_] at H
      simp only [Option.some.injEq, Prod.mk.injEq] at H
      obtain ⟨rfl, rfl⟩ := H
      go_wp2_with (first | (refine Gl_ (some 82) Try.func147 ((spec_ValOk.calls (wrap64 (a1 + a2)) false _ A12.out).mono ?_); rintro e w' ⟨rfl, ⟨nd, rfl⟩⟩; refine ⟨_, rfl, ?_⟩))
      go_ret2
      exact ⟨by first | rfl | (simp; done) | (simp [*]; done), by repeat (first | exact Drawn0.refl _ | apply Drawn0.step)⟩
    ·rw [if_neg c11] at H
     have c11b0 := beq_eq_false_iff_ne.mpr c11
     have c11b1 := bne_iff_ne.mpr c11
     by_cases c14 : a0 = 2
     ·rw [if_pos c14] at H
      have c14b0 := beq_iff_eq.mpr c14
      have c14b1 := bne_eq_false_iff_eq.mpr c14
      clear c14
      obtain ⟨t369, A15, H⟩ := Bo_ H
      by_cases c16 : t369 = true
      ·subst c16
       rw [if_pos rfl] at H
       simp only [Option.some.injEq, Prod.mk.injEq] at H
       obtain ⟨rfl, rfl⟩ := H
       go_wp2_with (first | (refine Gl_ (some 82) Try.func147 ((spec_ValOk.calls (wrap64 (a1 - a2)) true _ A15.out).mono ?_); rintro e w' ⟨rfl, ⟨nd, rfl⟩⟩; refine ⟨_, rfl, ?_⟩))
       go_ret2
       exact ⟨by first | rfl | (simp; done) | (simp [*]; done), by repeat (first | exact Drawn0.refl _ | apply Drawn0.step)⟩
      ·replace c16 := Bool.eq_false_iff.mpr c16
       subst c16
       rw [if_neg Ff_] at H
       simp only [Option.some.injEq, Prod.mk.injEq] at H
       obtain ⟨rfl, rfl⟩ := H
       go_wp2_with (first | (refine Gl_ (some 82) Try.func147 ((spec_ValOk.calls (wrap64 (a1 - a2)) false _ A15.out).mono ?_); rintro e w' ⟨rfl, ⟨nd, rfl⟩⟩; refine ⟨_, rfl, ?_⟩))
       go_ret2
       exact ⟨by first | rfl | (simp; done) | (simp [*]; done), by repeat (first | exact Drawn0.refl _ | apply Drawn0.step)⟩
     ·rw [if_neg c14] at H
      have c14b0 := beq_eq_false_iff_ne.mpr c14
      have c14b1 := bne_iff_ne.mpr c14
      by_cases c17 : a0 = 3
      ·rw [if_pos c17] at H
       have c17b0 := beq_iff_eq.mpr c17
       have c17b1 := bne_eq_false_iff_eq.mpr c17
       clear c17
       obtain ⟨t370, A18, H⟩ := Bo_ H
       by_cases c19 : t370 = true
       ·subst c19
        rw [if_pos rfl] at H
        simp only [Option.some.injEq, Prod.mk.injEq] at H
        obtain ⟨rfl, rfl⟩ := H
        go_wp2_with (first | (refine Gl_ (some 82) Try.func147 ((spec_ValOk.calls (wrap64 (a1 * a2)) true _ A18.out).mono ?_); rintro e w' ⟨rfl, ⟨nd, rfl⟩⟩; refine ⟨_, rfl, ?_⟩))
        go_ret2
        exact ⟨by first | rfl | (simp; done) | (simp [*]; done), by repeat (first | exact Drawn0.refl _ | apply Drawn0.step)⟩
       ·replace c19 := Bool.eq_false_iff.mpr c19
        subst c19
        rw [if_neg Ff_] at H
        simp only [Option.some.injEq, Prod.mk.injEq] at H
        obtain ⟨rfl, rfl⟩ := H
        go_wp2_with (first | (refine Gl_ (some 82) Try.func147 ((spec_ValOk.calls (wrap64 (a1 * a2)) false _ A18.out).mono ?_); rintro e w' ⟨rfl, ⟨nd, rfl⟩⟩; refine ⟨_, rfl, ?_⟩))
        go_ret2
        exact ⟨by first | rfl | (simp; done) | (simp [*]; done), by repeat (first | exact Drawn0.refl _ | apply Drawn0.step)⟩
      ·rw [if_neg c17] at H
       have c17b0 := beq_eq_false_iff_ne.mpr c17
       have c17b1 := bne_iff_ne.mpr c17
       have HC20 := Aside0.mk H
       clear H
       go_upto_if 38 with (fail)
       go_cut [38] (fun v38 wc => ∃ (kq : Nat) (x38_19 : Bool), v38 = .bool x38_19 ∧ Aside0 (spec_Calc.j1 kq a0 a1 a2 0 a0 x38_19 = some (r1, r2)) ∧ Aside0 (kq ≤ kj3) ∧ Drawn0 w wc)
       case first =>
        have H := HC20.out
        clear HC20
        by_cases c21 : a0 = 4
        ·rw [if_pos c21] at H
         have c21b0 := beq_iff_eq.mpr c21
         have c21b1 := bne_eq_false_iff_eq.mpr c21
         clear c21
         (first | rw [c21b0] | (simp only [i64_w, i32_w]; rw [c21b0]) | skip)
         have H' := Aside0.mk H
         clear H
         go_wp2
         go_meet
         case rel => exact ⟨_, ((a0 == 4)), Rr_, H', ⟨by have := HJ3.out; first | omega | exact Nat.le_refl _⟩, by repeat (first | exact Drawn0.refl _ | apply Drawn0.step)⟩
        ·rw [if_neg c21] at H
         have c21b0 := beq_eq_false_iff_ne.mpr c21
         have c21b1 := bne_iff_ne.mpr c21
         (first | rw [c21b0] | (simp only [i64_w, i32_w]; rw [c21b0]) | skip)
         have H' := Aside0.mk H
         clear H
         go_wp2
         go_meet
         case rel => exact ⟨_, ((a0 == 5)), Rr_, H', ⟨by have := HJ3.out; first | omega | exact Nat.le_refl _⟩, by repeat (first | exact Drawn0.refl _ | apply Drawn0.step)⟩
       case rest =>
        clear HC20
        clear c11 c11b0 c11b1 c14 c14b0 c14b1 c17 c17b0 c17b1
        obtain ⟨kq, x38_19, rfl, HA, HJ19, ⟨mc19, rfl⟩⟩ := hcut
        cases kq with
        | zero => exact absurd HA.out (by simp [spec_Calc.j1])
        | succ kj19 =>
         have H := HA.out
         clear HA
         simp only [spec_Calc.j1] at H
         by_cases c22 : x38_19 = true
         ·subst c22
          rw [if_pos rfl] at H
          by_cases c23 : a2 = 0
          ·rw [if_pos c23] at H
           have c23b0 := beq_iff_eq.mpr c23
           have c23b1 := bne_eq_false_iff_eq.mpr c23
           clear c23
           simp only [Option.some.injEq, Prod.mk.injEq] at H
           obtain ⟨rfl, rfl⟩ := H
           go_wp2
           go_ret2
           exact ⟨by first | rfl | (simp; done) | (simp [*]; done), by repeat (first | exact Drawn0.refl _ | apply Drawn0.step)⟩
          ·rw [if_neg c23] at H
           have c23b0 := beq_eq_false_iff_ne.mpr c23
           have c23b1 := bne_iff_ne.mpr c23
           by_cases c24 : a0 = 5
           ·rw [if_pos c24] at H
            have c24b0 := beq_iff_eq.mpr c24
            have c24b1 := bne_eq_false_iff_eq.mpr c24
            clear c24
            obtain ⟨t371, A25, H⟩ := Bo_ H
            by_cases c26 : t371 = true
            ·subst c26
             rw [if_pos rfl] at H
             simp only [Option.some.injEq, Prod.mk.injEq] at H
             obtain ⟨rfl, rfl⟩ := H
             go_wp2_with (first | (refine Gl_ (some 82) Try.func147 ((spec_ValOk.calls (Int.tmod a1 a2) true _ A25.out).mono ?_); rintro e w' ⟨rfl, ⟨nd, rfl⟩⟩; refine ⟨_, rfl, ?_⟩))
             go_ret2
             exact ⟨by first | rfl | (simp; done) | (simp [*]; done), by repeat (first | exact Drawn0.refl _ | apply Drawn0.step)⟩
            ·replace c26 := Bool.eq_false_iff.mpr c26
             subst c26
             rw [if_neg Ff_] at H
             simp only [Option.some.injEq, Prod.mk.injEq] at H
             obtain ⟨rfl, rfl⟩ := H
             go_wp2_with (first | (refine Gl_ (some 82) Try.func147 ((spec_ValOk.calls (Int.tmod a1 a2) false _ A25.out).mono ?_); rintro e w' ⟨rfl, ⟨nd, rfl⟩⟩; refine ⟨_, rfl, ?_⟩))
             go_ret2
             exact ⟨by first | rfl | (simp; done) | (simp [*]; done), by repeat (first | exact Drawn0.refl _ | apply Drawn0.step)⟩
           ·rw [if_neg c24] at H
            have c24b0 := beq_eq_false_iff_ne.mpr c24
            have c24b1 := bne_iff_ne.mpr c24
            obtain ⟨t372, A27, H⟩ := Bo_ H
            by_cases c28 : t372 = true
            ·subst c28
             rw [if_pos rfl] at H
             simp only [Option.some.injEq, Prod.mk.injEq] at H
             obtain ⟨rfl, rfl⟩ := H
             go_wp2_with (first | (refine Gl_ (some 82) Try.func147 ((spec_ValOk.calls (wrap64 (Int.tdiv a1 a2)) true _ A27.out).mono ?_); rintro e w' ⟨rfl, ⟨nd, rfl⟩⟩; refine ⟨_, rfl, ?_⟩))
             go_ret2
             exact ⟨by first | rfl | (simp; done) | (simp [*]; done), by repeat (first | exact Drawn0.refl _ | apply Drawn0.step)⟩
            ·replace c28 := Bool.eq_false_iff.mpr c28
             subst c28
             rw [if_neg Ff_] at H
             simp only [Option.some.injEq, Prod.mk.injEq] at H
             obtain ⟨rfl, rfl⟩ := H
             go_wp2_with (first | (refine Gl_ (some 82) Try.func147 ((spec_ValOk.calls (wrap64 (Int.tdiv a1 a2)) false _ A27.out).mono ?_); rintro e w' ⟨rfl, ⟨nd, rfl⟩⟩; refine ⟨_, rfl, ?_⟩))
             go_ret2
             exact ⟨by first | rfl | (simp; done) | (simp [*]; done), by repeat (first | exact Drawn0.refl _ | apply Drawn0.step)⟩
         ·replace c22 := Bool.eq_false_iff.mpr c22
          subst c22
          rw [if_neg Ff_] at H
          by_cases c29 : a0 = 6
          ·rw [if_pos c29] at H
           have c29b0 := beq_iff_eq.mpr c29
           have c29b1 := bne_eq_false_iff_eq.mpr c29
           clear c29
           obtain ⟨t373, A30, H⟩ := Bo_ H
           obtain ⟨t374, A31, H⟩ := Bo_ H
           by_cases c32 : t374 = true
           ·subst c32
            rw [if_pos rfl] at H
            simp only [Option.some.injEq, Prod.mk.injEq] at H
            obtain ⟨rfl, rfl⟩ := H
            go_wp2_with (first | (refine Gl_ (some 56) Try.func146 ((spec_l03Bit.calls (decide (a1 < a2)) t373 _ A30.out).mono ?_); rintro e w' ⟨rfl, ⟨nd, rfl⟩⟩; refine ⟨_, rfl, ?_⟩) | (refine Gl_ (some 82) Try.func147 ((spec_ValOk.calls t373 true _ A31.out).mono ?_); rintro e w' ⟨rfl, ⟨nd, rfl⟩⟩; refine ⟨_, rfl, ?_⟩))
            go_ret2
            exact ⟨by first | rfl | (simp; done) | (simp [*]; done), by repeat (first | exact Drawn0.refl _ | apply Drawn0.step)⟩
           ·replace c32 := Bool.eq_false_iff.mpr c32
            subst c32
            rw [if_neg Ff_] at H
            simp only [Option.some.injEq, Prod.mk.injEq] at H
            obtain ⟨rfl, rfl⟩ := H
            go_wp2_with (first | (refine Gl_ (some 56) Try.func146 ((spec_l03Bit.calls (decide (a1 < a2)) t373 _ A30.out).mono ?_); rintro e w' ⟨rfl, ⟨nd, rfl⟩⟩; refine ⟨_, rfl, ?_⟩) | (refine Gl_ (some 82) Try.func147 ((spec_ValOk.calls t373 false _ A31.out).mono ?_); rintro e w' ⟨rfl, ⟨nd, rfl⟩⟩; refine ⟨_, rfl, ?_⟩))
            go_ret2
            exact ⟨by first | rfl | (simp; done) | (simp [*]; done), by repeat (first | exact Drawn0.refl _ | apply Drawn0.step)⟩
          ·rw [if_neg c29] at H
           have c29b0 := beq_eq_false_iff_ne.mpr c29
           have c29b1 := bne_iff_ne.mpr c29
           by_cases c33 : a0 = 7
           ·rw [if_pos c33] at H
            have c33b0 := beq_iff_eq.mpr c33
            have c33b1 := bne_eq_false_iff_eq.mpr c33
            clear c33
            obtain ⟨t375, A34, H⟩ := Bo_ H
            obtain ⟨t376, A35, H⟩ := Bo_ H
            by_cases c36 : t376 = true
            ·subst c36
             rw [if_pos rfl] at H
             simp only [Option.some.injEq, Prod.mk.injEq] at H
             obtain ⟨rfl, rfl⟩ := H
             go_wp2_with (first | (refine Gl_ (some 62) Try.func146 ((spec_l03Bit.calls (a1 == a2) t375 _ A34.out).mono ?_); rintro e w' ⟨rfl, ⟨nd, rfl⟩⟩; refine ⟨_, rfl, ?_⟩) | (refine Gl_ (some 82) Try.func147 ((spec_ValOk.calls t375 true _ A35.out).mono ?_); rintro e w' ⟨rfl, ⟨nd, rfl⟩⟩; refine ⟨_, rfl, ?_⟩))
             go_ret2
             exact ⟨by first | rfl | (simp; done) | (simp [*]; done), by repeat (first | exact Drawn0.refl _ | apply Drawn0.step)⟩
            ·replace c36 := Bool.eq_false_iff.mpr c36
             subst c36
             rw [if_neg Ff_] at H
             simp only [Option.some.injEq, Prod.mk.injEq] at H
             obtain ⟨rfl, rfl⟩ := H
             go_wp2_with (first | (refine Gl_ (some 62) Try.func146 ((spec_l03Bit.calls (a1 == a2) t375 _ A34.out).mono ?_); rintro e w' ⟨rfl, ⟨nd, rfl⟩⟩; refine ⟨_, rfl, ?_⟩) | (refine Gl_ (some 82) Try.func147 ((spec_ValOk.calls t375 false _ A35.out).mono ?_); rintro e w' ⟨rfl, ⟨nd, rfl⟩⟩; refine ⟨_, rfl, ?_⟩))
             go_ret2
             exact ⟨by first | rfl | (simp; done) | (simp [*]; done), by repeat (first | exact Drawn0.refl _ | apply Drawn0.step)⟩
           ·rw [if_neg c33] at H
            have c33b0 := beq_eq_false_iff_ne.mpr c33
            have c33b1 := bne_iff_ne.mpr c33
            by_cases c37 : a0 = 8
            ·rw [if_pos c37] at H
             have c37b0 := beq_iff_eq.mpr c37
             have c37b1 := bne_eq_false_iff_eq.mpr c37
             clear c37
             by_cases c38 : a1 = 0
             ·rw [if_pos c38] at H
              have c38b0 := beq_iff_eq.mpr c38
              have c38b1 := bne_eq_false_iff_eq.mpr c38
              clear c38
              obtain ⟨t377, A39, H⟩ := Bo_ H
              obtain ⟨t378, A40, H⟩ := Bo_ H
              by_cases c41 : t378 = true
              ·subst c41
               rw [if_pos rfl] at H
               simp only [Option.some.injEq, Prod.mk.injEq] at H
               obtain ⟨rfl, rfl⟩ := H
               go_wp2_with (first | (refine Gl_ (some 71) Try.func146 ((spec_l03Bit.calls false t377 _ A39.out).mono ?_); rintro e w' ⟨rfl, ⟨nd, rfl⟩⟩; refine ⟨_, rfl, ?_⟩) | (refine Gl_ (some 82) Try.func147 ((spec_ValOk.calls t377 true _ A40.out).mono ?_); rintro e w' ⟨rfl, ⟨nd, rfl⟩⟩; refine ⟨_, rfl, ?_⟩))
               go_ret2
               exact ⟨by first | rfl | (simp; done) | (simp [*]; done), by repeat (first | exact Drawn0.refl _ | apply Drawn0.step)⟩
              ·replace c41 := Bool.eq_false_iff.mpr c41
               subst c41
               rw [if_neg Ff_] at H
               simp only [Option.some.injEq, Prod.mk.injEq] at H
               obtain ⟨rfl, rfl⟩ := H
               go_wp2_with (first | (refine Gl_ (some 71) Try.func146 ((spec_l03Bit.calls false t377 _ A39.out).mono ?_); rintro e w' ⟨rfl, ⟨nd, rfl⟩⟩; refine ⟨_, rfl, ?_⟩) | (refine Gl_ (some 82) Try.func147 ((spec_ValOk.calls t377 false _ A40.out).mono ?_); rintro e w' ⟨rfl, ⟨nd, rfl⟩⟩; refine ⟨_, rfl, ?_⟩))
               go_ret2
               exact ⟨by first | rfl | (simp; done) | (simp [*]; done), by repeat (first | exact Drawn0.refl _ | apply Drawn0.step)⟩
             ·rw [if_neg c38] at H
              have c38b0 := beq_eq_false_iff_ne.mpr c38
              have c38b1 := bne_iff_ne.mpr c38
              obtain ⟨t379, A42, H⟩ := Bo_ H
              obtain ⟨t380, A43, H⟩ := Bo_ H
              by_cases c44 : t380 = true
              ·subst c44
               rw [if_pos rfl] at H
               simp only [Option.some.injEq, Prod.mk.injEq] at H
               obtain ⟨rfl, rfl⟩ := H
               go_wp2_with (first | (refine Gl_ (some 71) Try.func146 ((spec_l03Bit.calls (a2 != 0) t379 _ A42.out).mono ?_); rintro e w' ⟨rfl, ⟨nd, rfl⟩⟩; refine ⟨_, rfl, ?_⟩) | (refine Gl_ (some 82) Try.func147 ((spec_ValOk.calls t379 true _ A43.out).mono ?_); rintro e w' ⟨rfl, ⟨nd, rfl⟩⟩; refine ⟨_, rfl, ?_⟩))
               go_ret2
               exact ⟨by first | rfl | (simp; done) | (simp [*]; done), by repeat (first | exact Drawn0.refl _ | apply Drawn0.step)⟩
              ·replace c44 := Bool.eq_false_iff.mpr c44
               subst c44
               rw [if_neg Ff_] at H
               simp only [Option.some.injEq, Prod.mk.injEq] at H
               obtain ⟨rfl, rfl⟩ := H
               go_wp2_with (first | (refine Gl_ (some 71) Try.func146 ((spec_l03Bit.calls (a2 != 0) t379 _ A42.out).mono ?_); rintro e w' ⟨rfl, ⟨nd, rfl⟩⟩; refine ⟨_, rfl, ?_⟩) | (refine Gl_ (some 82) Try.func147 ((spec_ValOk.calls t379 false _ A43.out).mono ?_); rintro e w' ⟨rfl, ⟨nd, rfl⟩⟩; refine ⟨_, rfl, ?_⟩))
               go_ret2
               exact ⟨by first | rfl | (simp; done) | (simp [*]; done), by repeat (first | exact Drawn0.refl _ | apply Drawn0.step)⟩
            ·rw [if_neg c37] at H
             have c37b0 := beq_eq_false_iff_ne.mpr c37
             have c37b1 := bne_iff_ne.mpr c37
             by_cases c45 : a0 = 9
             ·rw [if_pos c45] at H
              have c45b0 := beq_iff_eq.mpr c45
              have c45b1 := bne_eq_false_iff_eq.mpr c45
              clear c45
              by_cases c46 : a1 = 0
              ·rw [if_pos c46] at H
               have c46b0 := beq_iff_eq.mpr c46
               have c46b1 := bne_eq_false_iff_eq.mpr c46
               clear c46
               obtain ⟨t381, A47, H⟩ := Bo_ H
               obtain ⟨t382, A48, H⟩ := Bo_ H
               by_cases c49 : t382 = true
               ·subst c49
                rw [if_pos rfl] at H
                simp only [Option.some.injEq, Prod.mk.injEq] at H
                obtain ⟨rfl, rfl⟩ := H
                go_wp2_with (first | (refine Gl_ (some 80) Try.func146 ((spec_l03Bit.calls (a2 != 0) t381 _ A47.out).mono ?_); rintro e w' ⟨rfl, ⟨nd, rfl⟩⟩; refine ⟨_, rfl, ?_⟩) | (refine Gl_ (some 82) Try.func147 ((spec_ValOk.calls t381 true _ A48.out).mono ?_); rintro e w' ⟨rfl, ⟨nd, rfl⟩⟩; refine ⟨_, rfl, ?_⟩))
                go_ret2
                exact ⟨by first | rfl | (simp; done) | (simp [*]; done), by repeat (first | exact Drawn0.refl _ | apply Drawn0.step)⟩
               ·replace c49 := Bool.eq_false_iff.mpr c49
                subst c49
                rw [if_neg Ff_] at H
                simp only [Option.some.injEq, Prod.mk.injEq] at H
                obtain ⟨rfl, rfl⟩ := H
                go_wp2_with (first | (refine Gl_ (some 80) Try.func146 ((spec_l03Bit.calls (a2 != 0) t381 _ A47.out).mono ?_); rintro e w' ⟨rfl, ⟨nd, rfl⟩⟩; refine ⟨_, rfl, ?_⟩) | (refine Gl_ (some 82) Try.func147 ((spec_ValOk.calls t381 false _ A48.out).mono ?_); rintro e w' ⟨rfl, ⟨nd, rfl⟩⟩; refine ⟨_, rfl, ?_⟩))
                go_ret2
                exact ⟨by first | rfl | (simp; done) | (simp [*]; done), by repeat (first | exact Drawn0.refl _ | apply Drawn0.step)⟩
              ·rw [if_neg c46] at H
               have c46b0 := beq_eq_false_iff_ne.mpr c46
               have c46b1 := bne_iff_ne.mpr c46
               obtain ⟨t383, A50, H⟩ := Bo_ H
               obtain ⟨t384, A51, H⟩ := Bo_ H
               by_cases c52 : t384 = true
               ·subst c52
                rw [if_pos rfl] at H
                simp only [Option.some.injEq, Prod.mk.injEq] at H
                obtain ⟨rfl, rfl⟩ := H
                go_wp2_with (first | (refine Gl_ (some 80) Try.func146 ((spec_l03Bit.calls true t383 _ A50.out).mono ?_); rintro e w' ⟨rfl, ⟨nd, rfl⟩⟩; refine ⟨_, rfl, ?_⟩) | (refine Gl_ (some 82) Try.func147 ((spec_ValOk.calls t383 true _ A51.out).mono ?_); rintro e w' ⟨rfl, ⟨nd, rfl⟩⟩; refine ⟨_, rfl, ?_⟩))
                go_ret2
                exact ⟨by first | rfl | (simp; done) | (simp [*]; done), by repeat (first | exact Drawn0.refl _ | apply Drawn0.step)⟩
               ·replace c52 := Bool.eq_false_iff.mpr c52
                subst c52
                rw [if_neg Ff_] at H
                simp only [Option.some.injEq, Prod.mk.injEq] at H
                obtain ⟨rfl, rfl⟩ := H
                go_wp2_with (first | (refine Gl_ (some 80) Try.func146 ((spec_l03Bit.calls true t383 _ A50.out).mono ?_); rintro e w' ⟨rfl, ⟨nd, rfl⟩⟩; refine ⟨_, rfl, ?_⟩) | (refine Gl_ (some 82) Try.func147 ((spec_ValOk.calls t383 false _ A51.out).mono ?_); rintro e w' ⟨rfl, ⟨nd, rfl⟩⟩; refine ⟨_, rfl, ?_⟩))
                go_ret2
                exact ⟨by first | rfl | (simp; done) | (simp [*]; done), by repeat (first | exact Drawn0.refl _ | apply Drawn0.step)⟩
             ·rw [if_neg c45] at H
              have c45b0 := beq_eq_false_iff_ne.mpr c45
              have c45b1 := bne_iff_ne.mpr c45
              obtain ⟨t385, A53, H⟩ := Bo_ H
              by_cases c54 : t385 = true
              ·subst c54
               rw [if_pos rfl] at H
               simp only [Option.some.injEq, Prod.mk.injEq] at H
               obtain ⟨rfl, rfl⟩ := H
               go_wp2_with (first | (refine Gl_ (some 82) Try.func147 ((spec_ValOk.calls 0 true _ A53.out).mono ?_); rintro e w' ⟨rfl, ⟨nd, rfl⟩⟩; refine ⟨_, rfl, ?_⟩))
               go_ret2
               exact ⟨by first | rfl | (simp; done) | (simp [*]; done), by repeat (first | exact Drawn0.refl _ | apply Drawn0.step)⟩
              ·replace c54 := Bool.eq_false_iff.mpr c54
               subst c54
               rw [if_neg Ff_] at H
               simp only [Option.some.injEq, Prod.mk.injEq] at H
               obtain ⟨rfl, rfl⟩ := H
               go_wp2_with (first | (refine Gl_ (some 82) Try.func147 ((spec_ValOk.calls 0 false _ A53.out).mono ?_); rintro e w' ⟨rfl, ⟨nd, rfl⟩⟩; refine ⟨_, rfl, ?_⟩))
               go_ret2
               exact ⟨by first | rfl | (simp; done) | (simp [*]; done), by repeat (first | exact Drawn0.refl _ | apply Drawn0.step)⟩

end Go.Proofs.Ytmbkcbgbienjoaa.PFnExactValueOf
