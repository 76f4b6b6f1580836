/- The machine side of the law FnEnvs: for each function that it reaches, a Lean function and its contract. Written by a program of this session's over the kit's print. No condition. -/
import Derived.Test.YtegeahiflkjhmaaCmp
import Derived.Test.YtegeahiflkjhmaaPFnEnvsx0
import Derived.Test.YtegeahiflkjhmaaPFnEnvsx2
import Derived.Test.YtegeahiflkjhmaaPFnEnvsx3
import Derived.Test.YtegeahiflkjhmaaPFnEnvsx4
import Derived.Test.YtegeahiflkjhmaaPFnEnvsx5
import Derived.Test.YtegeahiflkjhmaaPFnEnvsx6
import Derived.Test.YtegeahiflkjhmaaPFnEnvsx7
import Derived.Test.YtegeahiflkjhmaaPFnEnvsx8
import Derived.Test.YtegeahiflkjhmaaPFnEnvsx9
import Derived.Test.YtegeahiflkjhmaaPFnEnvsx10
namespace Go.Proofs.Ytegeahiflkjhmaa.PFnEnvs
open Go.RowKit Go.Proofs.YtegeahiflkjhmaaW.PrintWords Go.Proofs.YtegeahiflkjhmaaW.PrintLast Go.Proofs.YtegeahiflkjhmaaW.PrintMore Go.Proofs.Ytegeahiflkjhmaa.Cmp
attribute [local go_sem] max2_int min2_int max_two min_two max_three min_three max_four min_four   -- for this text's walks alone
set_option linter.unusedVariables false
set_option linter.unusedSimpArgs false

/-! ### laws_FnEnvs: function 8 -/
def laws_FnEnvs.l0 : Nat → List Int → List Int → ByteArray → Int → List ByteArray → List Int → List ByteArray → List Int → Option (Bool)
 | 0, _, _, _, _, _, _, _, _ => none
 | k + 1, x0, x4, x5, x7, x418000, x418001, x431000, x431001 => if x7 < (x418000.length : Int) then (if 0 ≤ x7 then (if x7 < (x418001.length : Int) then (if (rdOf ByteArray.empty x418000 x7).toList = x5.toList then (if 1 < (x4.length : Int) then ((impl_GetIn.f k x431000 x431001 (rdOf ByteArray.empty x418000 x7)).bind fun t435 => (if t435 = (rd x4 1) then (laws_FnEnvs.l0 k x0 x4 x5 (wrap64 (x7 + 1)) x418000 x418001 x431000 x431001) else (some false))) else (none)) else ((impl_GetIn.f k x431000 x431001 (rdOf ByteArray.empty x418000 x7)).bind fun t437 => (if t437 = (rd x418001 x7) then (laws_FnEnvs.l0 k x0 x4 x5 (wrap64 (x7 + 1)) x418000 x418001 x431000 x431001) else (some false)))) else (none)) else (none)) else ((spec_DrawTogether.f k x0).bind fun bt438 => ((impl_Together.f k bt438.1 bt438.2.1 bt438.2.2.1 bt438.2.2.2).bind fun bt452 => ((spec_DrawEnvOk.f k x0).bind fun bt459 => ((spec_DrawPutIn.f k x0).bind fun bt466 => ((impl_EnvOk.f k x418000 x418001).bind fun t475 => (if t475 = true then ((impl_EnvOk.f k x431000 x431001).bind fun t476 => (if t476 = true then ((spec_Together.f k bt438.1 bt438.2.1 bt438.2.2.1 bt438.2.2.2).bind fun bt477 => ((laws_sameEnv.f k bt452.1 bt452.2 bt477.1 bt477.2).bind fun t483 => (if t483 = true then ((impl_EnvOk.f k bt459.1 bt459.2).bind fun t484 => ((spec_EnvOk.f k bt459.1 bt459.2).bind fun t485 => (if (t484 == t485) = true then ((impl_PutIn.f k bt466.1 bt466.2.1 bt466.2.2.1 bt466.2.2.2).bind fun bt486 => ((spec_PutIn.f k bt466.1 bt466.2.1 bt466.2.2.1 bt466.2.2.2).bind fun bt492 => ((laws_sameEnv.f k bt486.1 bt486.2 bt492.1 bt492.2).bind fun t498 => (if t498 = true then ((impl_GetIn.f k x418000 x418001 (⟨#[110, 111, 110, 101]⟩ : ByteArray)).bind fun t499 => (some (t499 == 0))) else (some false))))) else (some false)))) else (some false)))) else (some false))) else (some false)))))))
def laws_FnEnvs.f (k : Nat) (l0 : List Int) : Option (Bool) := (laws_big.f l0).bind fun t410 => (if t410 = true then (some true) else ((spec_DrawEnv.f k l0).bind fun bt411 => ((spec_DrawPlaces.f k l0).bind fun t418 => (if 0 < (t418.length : Int) then (if (bt411.1.length : Int) = 0 then (none) else (if 0 ≤ (Int.tmod (rd t418 0) (bt411.1.length : Int)) then (if (Int.tmod (rd t418 0) (bt411.1.length : Int)) < (bt411.1.length : Int) then (if 1 < (t418.length : Int) then ((impl_PutIn.f k bt411.1 bt411.2 (rdOf ByteArray.empty bt411.1 (Int.tmod (rd t418 0) (bt411.1.length : Int))) (rd t418 1)).bind fun bt424 => (laws_FnEnvs.l0 k l0 t418 (rdOf ByteArray.empty bt411.1 (Int.tmod (rd t418 0) (bt411.1.length : Int))) 0 bt411.1 bt411.2 bt424.1 bt424.2)) else (none)) else (none)) else (none))) else (none)))))
theorem laws_FnEnvs.mono_l : ∀ k, (∀ y0 y1 y2 y3 y4 y5 y6 y7, LeO (laws_FnEnvs.l0 k y0 y1 y2 y3 y4 y5 y6 y7) (laws_FnEnvs.l0 (k + 1) y0 y1 y2 y3 y4 y5 y6 y7))
 | 0 => fun _ _ _ _ _ _ _ _ r h => by simp [laws_FnEnvs.l0] at h
 | k + 1 => by
  have ih0 := laws_FnEnvs.mono_l k
  ·intro y0 y1 y2 y3 y4 y5 y6 y7
   unfold laws_FnEnvs.l0
   repeat' first
   | (with_reducible exact ih0 _ _ _ _ _ _ _ _)
   | (with_reducible exact impl_EnvOk.mono _ _ _)
   | (with_reducible exact impl_GetIn.mono _ _ _ _)
   | (with_reducible exact impl_PutIn.mono _ _ _ _ _)
   | (with_reducible exact impl_Together.mono _ _ _ _ _)
   | (with_reducible exact laws_sameEnv.mono _ _ _ _ _)
   | (with_reducible exact spec_DrawEnv.mono _ _)
   | (with_reducible exact spec_DrawEnvOk.mono _ _)
   | (with_reducible exact spec_DrawPlaces.mono _ _)
   | (with_reducible exact spec_DrawPutIn.mono _ _)
   | (with_reducible exact spec_DrawTogether.mono _ _)
   | (with_reducible exact spec_EnvOk.mono _ _ _)
   | (with_reducible exact spec_PutIn.mono _ _ _ _ _)
   | (with_reducible exact spec_Together.mono _ _ _ _ _)
   | (with_reducible exact LeO.refl _)
   | (with_reducible exact LeO.none _)
   | (with_reducible refine LeO.ite ?_ ?_)
   | (with_reducible refine LeO.bind ?_ (fun _ => ?_))
   | exact ih0 _ _ _ _ _ _ _ _
   | exact impl_EnvOk.mono _ _ _
   | exact impl_GetIn.mono _ _ _ _
   | exact impl_PutIn.mono _ _ _ _ _
   | exact impl_Together.mono _ _ _ _ _
   | exact laws_sameEnv.mono _ _ _ _ _
   | exact spec_DrawEnv.mono _ _
   | exact spec_DrawEnvOk.mono _ _
   | exact spec_DrawPlaces.mono _ _
   | exact spec_DrawPutIn.mono _ _
   | exact spec_DrawTogether.mono _ _
   | exact spec_EnvOk.mono _ _ _
   | exact spec_PutIn.mono _ _ _ _ _
   | exact spec_Together.mono _ _ _ _ _
   | exact LeO.none _
   | refine LeO.ite ?_ ?_
   | refine LeO.bind ?_ (fun _ => ?_)
theorem laws_FnEnvs.mono : ∀ a0 k, LeO (laws_FnEnvs.f k a0) (laws_FnEnvs.f (k + 1) a0) := by
 intro a0 k
 have ih0 := laws_FnEnvs.mono_l k
 unfold laws_FnEnvs.f
 repeat' first
   | (with_reducible exact ih0 _ _ _ _ _ _ _ _)
   | (with_reducible exact impl_EnvOk.mono _ _ _)
   | (with_reducible exact impl_GetIn.mono _ _ _ _)
   | (with_reducible exact impl_PutIn.mono _ _ _ _ _)
   | (with_reducible exact impl_Together.mono _ _ _ _ _)
   | (with_reducible exact laws_sameEnv.mono _ _ _ _ _)
   | (with_reducible exact spec_DrawEnv.mono _ _)
   | (with_reducible exact spec_DrawEnvOk.mono _ _)
   | (with_reducible exact spec_DrawPlaces.mono _ _)
   | (with_reducible exact spec_DrawPutIn.mono _ _)
   | (with_reducible exact spec_DrawTogether.mono _ _)
   | (with_reducible exact spec_EnvOk.mono _ _ _)
   | (with_reducible exact spec_PutIn.mono _ _ _ _ _)
   | (with_reducible exact spec_Together.mono _ _ _ _ _)
   | (with_reducible exact LeO.refl _)
   | (with_reducible exact LeO.none _)
   | (with_reducible refine LeO.ite ?_ ?_)
   | (with_reducible refine LeO.bind ?_ (fun _ => ?_))
   | exact ih0 _ _ _ _ _ _ _ _
   | exact impl_EnvOk.mono _ _ _
   | exact impl_GetIn.mono _ _ _ _
   | exact impl_PutIn.mono _ _ _ _ _
   | exact impl_Together.mono _ _ _ _ _
   | exact laws_sameEnv.mono _ _ _ _ _
   | exact spec_DrawEnv.mono _ _
   | exact spec_DrawEnvOk.mono _ _
   | exact spec_DrawPlaces.mono _ _
   | exact spec_DrawPutIn.mono _ _
   | exact spec_DrawTogether.mono _ _
   | exact spec_EnvOk.mono _ _ _
   | exact spec_PutIn.mono _ _ _ _ _
   | exact spec_Together.mono _ _ _ _ _
   | exact LeO.none _
   | refine LeO.ite ?_ ?_
   | refine LeO.bind ?_ (fun _ => ?_)
def laws_FnEnvs.T5 : Bool × List (List Nat × List Nat) := (true, [([], []), ([0], [0]), ([], []), ([2], [2]), ([3], [3]), ([], []), ([5], [5]), ([6], [6]), ([4, 7], [4, 7]), ([1, 8], [1, 8]), ([9], [9]), ([10, 0, 1, 2, 3, 4, 5, 6, 7, 8, 9, 10], [10])])
def laws_FnEnvs.B5 : List Nat := [0, 1, 0, 4, 12, 0, 32, 96, 252, 511, 1023, 2047]
theorem laws_FnEnvs.tab5 : rtab .any (opsOf Try.f8 5) = laws_FnEnvs.T5 := by kernel_rfl
theorem laws_FnEnvs.bits5 : waitsOk laws_FnEnvs.T5.2 laws_FnEnvs.B5 = true := by kernel_rfl
def laws_FnEnvs.T6 : Bool × List (List Nat × List Nat) := (true, [([], []), ([], []), ([], []), ([2], [2]), ([3], [3]), ([0, 1, 4], [0, 1, 4]), ([], []), ([6, 5, 5, 0, 1, 2, 3, 4, 5, 6], [5, 6])])
def laws_FnEnvs.B6 : List Nat := [0, 0, 0, 4, 12, 31, 0, 127]
theorem laws_FnEnvs.tab6 : rtab .any (opsOf Try.f8 6) = laws_FnEnvs.T6 := by kernel_rfl
theorem laws_FnEnvs.bits6 : waitsOk laws_FnEnvs.T6.2 laws_FnEnvs.B6 = true := by kernel_rfl
def laws_FnEnvs.T13 : Bool × List (List Nat × List Nat) := (true, [([], []), ([], []), ([1], [1]), ([], []), ([2, 3], [2, 3]), ([4], [4]), ([0, 5], [0, 5]), ([], []), ([6, 7], [6, 7])])
def laws_FnEnvs.B13 : List Nat := [0, 0, 2, 0, 14, 30, 63, 0, 255]
theorem laws_FnEnvs.tab13 : rtab .any (opsOf Try.f8 13) = laws_FnEnvs.T13 := by kernel_rfl
theorem laws_FnEnvs.bits13 : waitsOk laws_FnEnvs.T13.2 laws_FnEnvs.B13 = true := by kernel_rfl
def laws_FnEnvs.T19 : Bool × List (List Nat × List Nat) := (true, [([], []), ([0], [0]), ([1, 1], [1]), ([2], [2]), ([3, 2, 2], [2, 3]), ([2, 4], [2, 4]), ([5, 4], [5]), ([6], [6]), ([6], [6]), ([6], [6]), ([8, 9, 6, 6], [6, 8, 9]), ([7, 10, 10, 6], [6, 7, 10]), ([6, 11], [6, 11]), ([12, 11], [12]), ([13], [13]), ([14, 13, 13], [13, 14]), ([13], [13]), ([16, 15, 13], [13, 16]), ([15, 17, 13], [13, 15, 17]), ([13, 18], [13, 18]), ([19, 17], [19]), ([20], [20]), ([20], [20]), ([20], [20]), ([21, 22, 23, 20, 20], [20, 21, 22, 23]), ([20], [20]), ([20], [20]), ([20], [20]), ([25, 26, 27, 24, 20], [20, 25, 26, 27]), ([24, 28, 28, 20], [20, 24, 28]), ([20, 29], [20, 29]), ([30, 29], [30]), ([31], [31]), ([32, 31, 31], [31, 32]), ([33, 31], [31, 33]), ([31, 34], [31, 34]), ([35, 33, 0, 1, 2, 3, 4, 5, 6, 7, 8, 9, 10, 11, 12, 13, 14, 15, 16, 17, 18, 19, 20, 21, 22, 23, 24, 25, 26, 27, 28, 29, 30, 31, 32, 33, 34, 35], [35])])
def laws_FnEnvs.B19 : List Nat := [0, 1, 3, 7, 15, 31, 63, 127, 127, 127, 895, 2047, 4095, 8191, 16383, 32767, 16383, 131071, 262143, 524287, 1048575, 2097151, 2097151, 2097151, 16777215, 2097151, 2097151, 2097151, 268435455, 536870911, 1073741823, 2147483647, 4294967295, 8589934591, 17179869183, 34359738367, 68719476735]
theorem laws_FnEnvs.tab19 : rtab .any (opsOf Try.f8 19) = laws_FnEnvs.T19 := by kernel_rfl
theorem laws_FnEnvs.bits19 : waitsOk laws_FnEnvs.T19.2 laws_FnEnvs.B19 = true := by kernel_rfl
set_option maxHeartbeats 8000000 in
set_option maxRecDepth 100000 in
theorem laws_FnEnvs.calls (k : Nat) (A0 : Option Addr) (c0 : Nat) (l0 : List Int) (r : Bool) (w : World) (hr0 : Kd.C (Kd.int .u8) w A0 l0.length l0) (hc0 : l0.length ≤ c0) (hlaw_ : Aside0 (r = true)) (h : laws_FnEnvs.f k l0 = some r) :
  Calls Try.prog 8 #[.slice A0 l0.length c0] w fun e w' => e = .returned (.bool r) ∧ Below w.heap.size w w' := by
 have hu28 := Try.underlying28
 have HR0 := Aside0.mk hr0
 have HC0 := Aside0.mk hc0
 clear hr0 hc0
 have HB := Aside0.mk (Below.refl w.heap.size w)
 have H : ((laws_big.f l0).bind fun t410 => (if t410 = true then (some true) else ((spec_DrawEnv.f k l0).bind fun bt411 => ((spec_DrawPlaces.f k l0).bind fun t418 => (if 0 < (t418.length : Int) then (if (bt411.1.length : Int) = 0 then (none) else (if 0 ≤ (Int.tmod (rd t418 0) (bt411.1.length : Int)) then (if (Int.tmod (rd t418 0) (bt411.1.length : Int)) < (bt411.1.length : Int) then (if 1 < (t418.length : Int) then ((impl_PutIn.f k bt411.1 bt411.2 (rdOf ByteArray.empty bt411.1 (Int.tmod (rd t418 0) (bt411.1.length : Int))) (rd t418 1)).bind fun bt424 => (laws_FnEnvs.l0 k l0 t418 (rdOf ByteArray.empty bt411.1 (Int.tmod (rd t418 0) (bt411.1.length : Int))) 0 bt411.1 bt411.2 bt424.1 bt424.2)) else (none)) else (none)) else (none))) else (none)))))) = some r := h
 clear h
 replace H := Option.bind_eq_some_iff.mp H
 obtain ⟨t410, A20, H⟩ := H
 replace H : (if t410 = true then (some true) else ((spec_DrawEnv.f k l0).bind fun bt411 => ((spec_DrawPlaces.f k l0).bind fun t418 => (if 0 < (t418.length : Int) then (if (bt411.1.length : Int) = 0 then (none) else (if 0 ≤ (Int.tmod (rd t418 0) (bt411.1.length : Int)) then (if (Int.tmod (rd t418 0) (bt411.1.length : Int)) < (bt411.1.length : Int) then (if 1 < (t418.length : Int) then ((impl_PutIn.f k bt411.1 bt411.2 (rdOf ByteArray.empty bt411.1 (Int.tmod (rd t418 0) (bt411.1.length : Int))) (rd t418 1)).bind fun bt424 => (laws_FnEnvs.l0 k l0 t418 (rdOf ByteArray.empty bt411.1 (Int.tmod (rd t418 0) (bt411.1.length : Int))) 0 bt411.1 bt411.2 bt424.1 bt424.2)) else (none)) else (none)) else (none))) else (none))))) = some r := H
 have A2 := Aside0.mk A20
 clear A20
 by_cases c3 : t410 = true
 ·subst c3
  have H1 : (some true) = some r := by rw [if_pos rfl] at H; exact H
  clear H
  have H := H1
  clear H1
  obtain rfl := Option.some.inj H
  go_enter Try.func8, Try.ntmps8
  go_wp2_with (first | ((with_reducible refine gate_callee (f := 36) rfl ?_); refine goesL_ (some 17) rfl rfl Try.func36 (by kernel_rfl) rfl #[.slice A0 l0.length c0] rfl Mp_ ?_; (with_reducible refine (laws_big.calls _ _ l0 true _ ?side1 ?side2 A2.out).mono ?_); (case side1 => repeat (first | exact HR0.out | (with_reducible refine Kd.C_alloc ?_ _) | (with_reducible refine Kd.C_drewN ?_ _) | (with_reducible refine Kd.C_drew ?_))); (case side2 => exact HC0.out); rintro e w' ⟨rfl, ⟨nd, rfl⟩⟩; refine ⟨_, rfl, ?_⟩))
  go_ret
  exact ⟨Re_, Hf_ HB⟩
 ·replace c3 := Bool.eq_false_iff.mpr c3
  subst c3
  have H1 : ((spec_DrawEnv.f k l0).bind fun bt411 => ((spec_DrawPlaces.f k l0).bind fun t418 => (if 0 < (t418.length : Int) then (if (bt411.1.length : Int) = 0 then (none) else (if 0 ≤ (Int.tmod (rd t418 0) (bt411.1.length : Int)) then (if (Int.tmod (rd t418 0) (bt411.1.length : Int)) < (bt411.1.length : Int) then (if 1 < (t418.length : Int) then ((impl_PutIn.f k bt411.1 bt411.2 (rdOf ByteArray.empty bt411.1 (Int.tmod (rd t418 0) (bt411.1.length : Int))) (rd t418 1)).bind fun bt424 => (laws_FnEnvs.l0 k l0 t418 (rdOf ByteArray.empty bt411.1 (Int.tmod (rd t418 0) (bt411.1.length : Int))) 0 bt411.1 bt411.2 bt424.1 bt424.2)) else (none)) else (none)) else (none))) else (none)))) = some r := by rw [if_neg (show ¬ (false = true) by decide)] at H; exact H
  clear H
  have H := H1
  clear H1
  replace H := Option.bind_eq_some_iff.mp H
  obtain ⟨⟨t411, t414⟩, A40, H⟩ := H
  replace H : ((spec_DrawPlaces.f k l0).bind fun t418 => (if 0 < (t418.length : Int) then (if (t411.length : Int) = 0 then (none) else (if 0 ≤ (Int.tmod (rd t418 0) (t411.length : Int)) then (if (Int.tmod (rd t418 0) (t411.length : Int)) < (t411.length : Int) then (if 1 < (t418.length : Int) then ((impl_PutIn.f k t411 t414 (rdOf ByteArray.empty t411 (Int.tmod (rd t418 0) (t411.length : Int))) (rd t418 1)).bind fun bt424 => (laws_FnEnvs.l0 k l0 t418 (rdOf ByteArray.empty t411 (Int.tmod (rd t418 0) (t411.length : Int))) 0 t411 t414 bt424.1 bt424.2)) else (none)) else (none)) else (none))) else (none))) = some r := H
  have A4 := Aside0.mk A40
  clear A40
  replace H := Option.bind_eq_some_iff.mp H
  obtain ⟨t418, A50, H⟩ := H
  replace H : (if 0 < (t418.length : Int) then (if (t411.length : Int) = 0 then (none) else (if 0 ≤ (Int.tmod (rd t418 0) (t411.length : Int)) then (if (Int.tmod (rd t418 0) (t411.length : Int)) < (t411.length : Int) then (if 1 < (t418.length : Int) then ((impl_PutIn.f k t411 t414 (rdOf ByteArray.empty t411 (Int.tmod (rd t418 0) (t411.length : Int))) (rd t418 1)).bind fun bt424 => (laws_FnEnvs.l0 k l0 t418 (rdOf ByteArray.empty t411 (Int.tmod (rd t418 0) (t411.length : Int))) 0 t411 t414 bt424.1 bt424.2)) else (none)) else (none)) else (none))) else (none)) = some r := H
  have A5 := Aside0.mk A50
  clear A50
  by_cases c6 : 0 < (t418.length : Int)
  ·rw [if_pos c6] at H
   have c6b0 : decide (0 < (t418.length : Int)) = true := decide_eq_true c6
   have c6b1 : decide (0 < t418.length) = true := decide_eq_true (by omega)
   clear c6
   by_cases c7 : (t411.length : Int) = 0
   ·rw [if_pos c7] at H
    exact absurd H (by simp)
   ·rw [if_neg c7] at H
    have c7b0 : ((t411.length : Int) == 0) = false := beq_eq_false_iff_ne.mpr c7
    have c7b1 : ((t411.length : Int) != 0) = true := bne_iff_ne.mpr c7
    have c7b2 : ¬ (t411 = []) := fun h_ => c7 (by rw [h_]; rfl)
    obtain ⟨ji8, hji8⟩ : ∃ j_ : Int, (Int.tmod (rd t418 0) (t411.length : Int)) = j_ := ⟨_, rfl⟩
    replace H : (if 0 ≤ (ji8) then (if (ji8) < (t411.length : Int) then (if 1 < (t418.length : Int) then ((impl_PutIn.f k t411 t414 (rdOf ByteArray.empty t411 (ji8)) (rd t418 1)).bind fun bt424 => (laws_FnEnvs.l0 k l0 t418 (rdOf ByteArray.empty t411 (ji8)) 0 t411 t414 bt424.1 bt424.2)) else (none)) else (none)) else (none)) = some r := by first | (rw [hji8] at H; exact H) | (simp only [hji8] at H ⊢; exact H)
    (try rw [hji8] at A2)
    (try rw [hji8] at A4)
    (try rw [hji8] at A5)
    by_cases c9 : 0 ≤ (ji8)
    ·rw [if_pos c9] at H
     have c9b0 : decide (0 ≤ (ji8)) = true := decide_eq_true c9
     clear c9
     by_cases c10 : (ji8) < (t411.length : Int)
     ·rw [if_pos c10] at H
      have c10b0 : decide ((ji8) < (t411.length : Int)) = true := decide_eq_true c10
      clear c10
      by_cases c11 : 1 < (t418.length : Int)
      ·rw [if_pos c11] at H
       have c11b0 : decide (1 < (t418.length : Int)) = true := decide_eq_true c11
       have c11b1 : decide (1 < t418.length) = true := decide_eq_true (by omega)
       clear c11
       replace H := Option.bind_eq_some_iff.mp H
       obtain ⟨⟨t424, t427⟩, A120, H⟩ := H
       replace H : (laws_FnEnvs.l0 k l0 t418 (rdOf ByteArray.empty t411 (ji8)) 0 t411 t414 t424 t427) = some r := H
       have A12 := Aside0.mk A120
       clear A120
       have H' := Aside0.mk H
       clear H
       go_enter Try.func8, Try.ntmps8
       try go_wp2_with (first | ((with_reducible refine gate_callee (f := 36) rfl ?_); refine goesL_ (some 17) rfl rfl Try.func36 (by kernel_rfl) rfl #[.slice A0 l0.length c0] rfl Mp_ ?_; (with_reducible refine (laws_big.calls _ _ l0 false _ ?side1 ?side2 A2.out).mono ?_); (case side1 => repeat (first | exact HR0.out | (with_reducible refine Kd.C_alloc ?_ _) | (with_reducible refine Kd.C_drewN ?_ _) | (with_reducible refine Kd.C_drew ?_))); (case side2 => exact HC0.out); rintro e w' ⟨rfl, ⟨nd, rfl⟩⟩; refine ⟨_, rfl, ?_⟩) | ((with_reducible refine gate_callee (f := 37) rfl ?_); refine goesL_ (some 19) rfl rfl Try.func37 (by kernel_rfl) rfl #[.slice A0 l0.length c0] rfl Mp_ ?_; (with_reducible refine (spec_DrawEnv.calls k _ _ l0 t411 t414 _ ?side1 ?side2 A4.out).mono ?_); (case side1 => repeat (first | exact HR0.out | (with_reducible refine Kd.C_alloc ?_ _) | (with_reducible refine Kd.C_drewN ?_ _) | (with_reducible refine Kd.C_drew ?_))); (case side2 => exact HC0.out); rintro e w13 ⟨v412, v415, rfl, ho0, ho1, hb⟩; refine ⟨_, rfl, ?_⟩; have HO413 := Aside0.mk (Kd.R_lower ho0 (below_size (Hf_ HB))); have HO416 := Aside0.mk (Kd.R_lower ho1 (below_size (Hf_ HB))); replace HB := Hs_ HB hb; (try clear hb); (try clear hb2); (try clear hk); (try clear hi); (try clear ho0); (try clear ho1)) | ((with_reducible refine gate_dst (N := 3) rfl ?_); refine box_event ?hg (N := 3) ?hd (cs := #[.slice none 0 0, .slice none 0 0]) (t := 28) ?hr ?_; (case hd => rfl); (case hg => rfl); (case hr => first | (go_simp; done) | (go_simp; rfl)); intro gb417 hg w14 hbox hb; have BK417 := Aside0.mk (hbox); have GW417 := Hg_ HB hg; have GE417 := GW417; replace HO413 := Rb_ HO413 hb; replace HO416 := Rb_ HO416 hb; replace HB := Hs_ HB hb; clear hb hbox hg; obtain ⟨Ao15, co15, eo15⟩ := Kd.R_slice HO413.out; subst eo15; obtain ⟨hcz16_0, hcz16_1, hfz16_0, hfz16_1⟩ := Bc2_ BK417; obtain ⟨Ao17, co17, eo17⟩ := Kd.R_slice HO416.out; subst eo17) | ((with_reducible refine gate_callee (f := 38) rfl ?_); refine goesL_ (some 21) rfl rfl Try.func38 (by kernel_rfl) rfl #[.slice A0 l0.length c0] rfl Mp_ ?_; (with_reducible refine (spec_DrawPlaces.calls k _ _ l0 t418 _ ?side1 ?side2 A5.out).mono ?_); (case side1 => exact Kd.C_below HR0.out (Hf_ HB)); (case side2 => exact HC0.out); rintro e w18 ⟨v419, rfl, ho0, hb⟩; refine ⟨_, rfl, ?_⟩; have HO420 := Aside0.mk (Kd.R_lower (Kd.R_new' ho0 (Kd.R_lt (by (with_reducible repeat (first | apply Kd.R_alloc | apply Kd.R_drewN | apply Kd.R_drew)); exact (Kd.R_mono (Kd.R_far (p := ⟨gb417, 1, none⟩) (Kd.R_far (p := ⟨gb417, 0, none⟩) (Kd.R_types HO416.out BK417.out (by decide)) (fun _ hk => hk.2) (.slice Ao15 t411.length co15)) (fun _ hk => hk.2) (.slice Ao17 t414.length co17)) (fun _ h_ => h_.1))))) (below_size (Hf_ HB))); replace HO413 := Aside0.mk (Kd.R_below (by (with_reducible repeat (first | apply Kd.R_alloc | apply Kd.R_drewN | apply Kd.R_drew)); exact (Kd.R_mono (Kd.R_far (p := ⟨gb417, 1, none⟩) (Kd.R_far (p := ⟨gb417, 0, none⟩) (Kd.R_types HO413.out BK417.out (by decide)) (fun _ hk => hk.2) (.slice Ao15 t411.length co15)) (fun _ hk => hk.2) (.slice Ao17 t414.length co17)) (fun _ h_ => h_.1))) hb); replace HO416 := Aside0.mk (Kd.R_elder' (by (with_reducible repeat (first | apply Kd.R_alloc | apply Kd.R_drewN | apply Kd.R_drew)); exact (Kd.R_mono (Kd.R_far (p := ⟨gb417, 1, none⟩) (Kd.R_far (p := ⟨gb417, 0, none⟩) (Kd.R_types HO416.out BK417.out (by decide)) (fun _ hk => hk.2) (.slice Ao15 t411.length co15)) (fun _ hk => hk.2) (.slice Ao17 t414.length co17)) (fun _ h_ => h_.1))) (Kd.R_base ho0) hb); replace BK417 := Aside0.mk (blk_below (g := gb417) (o := .cells #[.slice Ao15 t411.length co15, .slice Ao17 t414.length co17] 28 (0, 0)) (by (with_reducible repeat (first | refine blk_drewN ?_ _ | refine blk_drew ?_ | refine blk_alloc ?_ _)); refine blk_put (cs := #[.slice Ao15 t411.length co15, .slice none 0 0]) ?_ 1 _ rfl; (with_reducible repeat (first | refine blk_drewN ?_ _ | refine blk_drew ?_ | refine blk_alloc ?_ _)); refine blk_put (cs := #[.slice none 0 0, .slice none 0 0]) ?_ 0 _ rfl; (with_reducible repeat (first | refine blk_drewN ?_ _ | refine blk_drew ?_ | refine blk_alloc ?_ _)); exact BK417.out) hb); replace HB := Hs_ HB hb; (try clear hb); (try clear hb2); (try clear hk); (try clear hi); (try clear ho0)))
       replace HO413 := Aside0.mk (Kd.R_drew HO413.out); replace HO416 := Aside0.mk (Kd.R_drew HO416.out); replace HO420 := Aside0.mk (Kd.R_drew HO420.out); replace BK417 := Aside0.mk (blk_drew BK417.out); replace HB := Aside0.mk (below_drew1 HB.out)
       obtain ⟨Ao20, co20, eo20⟩ := Kd.R_slice HO420.out
       (first | subst eo20 | (injection eo20 with f1_ f2_ f3_; have f4_ := f1_.symm; have f5_ := f3_.symm; clear f1_ f2_ f3_; subst f4_; subst f5_))
       have p421 : 0 ≤ (0 : Int) := (by omega)
       have q421 : 0 < (t418.length : Int) := of_decide_eq_true As_
       obtain ⟨ad421, e421, hx421_0⟩ := Kd.at_int (Kd.R_reads' HO420.out).2.2 0 p421 q421
       cases e421
       have qi421 : (0 < t418.length) = True := eq_true (by omega)
       (try rw [show ((0 : Int)).toNat = 0 from rfl] at hx421_0)
       (try rw [Addr.add_zero'] at hx421_0)
       replace p421 := eq_true p421
       replace q421 := eq_true q421
       have p422 : 0 ≤ ((ji8) : Int) := of_decide_eq_true As_
       have q422 : (ji8) < (t411.length : Int) := of_decide_eq_true As_
       obtain ⟨ad422, e422, hx422_0⟩ := Kd.at_string (Kd.R_reads' HO413.out).2.2 (ji8) p422 q422
       cases e422
       replace p422 := eq_true p422
       replace q422 := eq_true q422
       refine start_ (n := 12) (S := fun w' => w'.cell? ⟨gb417, 0, none⟩ = some (.slice (some ad422) t411.length co15) ∧ w'.cell? ⟨gb417, 1, none⟩ = some (.slice Ao17 t414.length co17) ∧ w'.cell? ad421 = some (.int .i64 (rd t418 0)) ∧ w'.cell? (ad422.add ((ji8)).toNat) = some (.string (rdOf ByteArray.empty t411 (ji8)))) (ds := []) #[false, false, false, false, false, false, false, false, false, false, false, false] (by kernel_rfl) rfl rfl ⟨(blk_cell BK417.out 0).trans rfl, (blk_cell BK417.out 1).trans rfl, hx421_0, hx422_0⟩ (fun hHeld => ?_); refine with_tabW laws_FnEnvs.tab5 laws_FnEnvs.bits5 (fun HT_ HW_ => ?_)
       generalize w18.drew = w19 at HO413 HO416 HO420 BK417 HB hx421_0 hx422_0 hHeld ⊢
       refine pure_ (i := 0) (N := some 22) (v := ?_) (a' := ?_) #[true, false, false, false, false, false, false, false, false, false, false, false] rfl rfl (any_of HT_.out (by kernel_rfl)) (fun _ _ _ h => h) (Or.inl ⟨by rfl, ?_⟩) ?_ ?_
       rotate_left
       ·intro w'
        go_simp
        with_reducible rfl
       rotate_left
       ·simp only [Act.put, List.setIfInBounds_toArray, List.set_cons_zero, List.set_cons_succ, i64_w, i32_w]
        rfl
       refine pure_ (i := 2) (N := some 24) (v := ?_) (a' := ?_) #[true, false, true, false, false, false, false, false, false, false, false, false] rfl rfl (any_of HT_.out (by kernel_rfl)) (fun _ _ _ h => h) (Or.inl ⟨by rfl, ?_⟩) ?_ ?_
       rotate_left
       ·intro w'
        go_simp
        with_reducible rfl
       rotate_left
       ·simp only [Act.put, List.setIfInBounds_toArray, List.set_cons_zero, List.set_cons_succ, i64_w, i32_w]
        rfl
       refine pure_ (i := 3) (N := some 25) (v := ?_) (a' := ?_) #[true, false, true, true, false, false, false, false, false, false, false, false] rfl rfl (any_of HT_.out (by kernel_rfl)) (fun _ _ _ h => h) (Or.inl ⟨by rfl, ?_⟩) ?_ ?_
       rotate_left
       ·intro w'
        go_simp
        with_reducible rfl
       rotate_left
       ·simp only [Act.put, List.setIfInBounds_toArray, List.set_cons_zero, List.set_cons_succ, i64_w, i32_w]
        rfl
       refine pure_ (i := 5) (N := some 27) (v := ?_) (a' := ?_) #[true, false, true, true, false, true, false, false, false, false, false, false] rfl rfl (any_of HT_.out (by kernel_rfl)) (fun _ _ _ h => h) (Or.inl ⟨by rfl, ?_⟩) ?_ ?_
       rotate_left
       ·intro w'
        go_simp
        with_reducible rfl
       rotate_left
       ·simp only [Act.put, List.setIfInBounds_toArray, List.set_cons_zero, List.set_cons_succ, i64_w, i32_w]
        rfl
       refine take_ (i := 1) (N := some 23) (v := ?_) (a' := ?_) #[true, true, true, true, false, true, false, false, false, false, false, false] rfl rfl (take_ofW HT_.out HW_.out (by kernel_rfl)) (fun _ _ _ h => h) (Or.inl ⟨by rfl, ?_⟩) hHeld ?_ ?_
       rotate_left
       ·rintro w' ⟨s0, s1, s2, s3⟩
        go_simp
        with_reducible rfl
       rotate_left
       ·simp only [Act.put, List.setIfInBounds_toArray, List.set_cons_zero, List.set_cons_succ, i64_w, i32_w]
        rfl
       refine take_ (i := 4) (N := some 26) (v := ?_) (a' := ?_) #[true, true, true, true, true, true, false, false, false, false, false, false] rfl rfl (take_ofW HT_.out HW_.out (by kernel_rfl)) (fun _ _ _ h => h) (Or.inl ⟨by rfl, ?_⟩) hHeld ?_ ?_
       rotate_left
       ·rintro w' ⟨s0, s1, s2, s3⟩
        go_simp
        with_reducible rfl
       rotate_left
       ·simp only [Act.put, List.setIfInBounds_toArray, List.set_cons_zero, List.set_cons_succ, i64_w, i32_w]
        rfl
       refine take_ (i := 6) (N := some 28) (v := ?_) (a' := ?_) #[true, true, true, true, true, true, true, false, false, false, false, false] rfl rfl (take_ofW HT_.out HW_.out (by kernel_rfl)) (fun _ _ _ h => h) (Or.inl ⟨by rfl, ?_⟩) hHeld ?_ ?_
       rotate_left
       ·rintro w' ⟨s0, s1, s2, s3⟩
        go_simp
        with_reducible rfl
       rotate_left
       ·simp only [Act.put, List.setIfInBounds_toArray, List.set_cons_zero, List.set_cons_succ, i64_w, i32_w]
        rfl
       refine pure_ (i := 7) (N := some 29) (v := ?_) (a' := ?_) #[true, true, true, true, true, true, true, true, false, false, false, false] rfl rfl (any_of HT_.out (by kernel_rfl)) (fun _ _ _ h => h) (Or.inl ⟨by rfl, ?_⟩) ?_ ?_
       rotate_left
       ·intro w'
        go_simp
        with_reducible rfl
       rotate_left
       ·simp only [Act.put, List.setIfInBounds_toArray, List.set_cons_zero, List.set_cons_succ, i64_w, i32_w]
        rfl
       refine pure_ (i := 8) (N := some 30) (v := ?_) (a' := ?_) #[true, true, true, true, true, true, true, true, true, false, false, false] rfl rfl (any_of HT_.out (by kernel_rfl)) (fun _ _ _ h => h) (Or.inl ⟨by rfl, ?_⟩) ?_ ?_
       rotate_left
       ·intro w'
        go_simp
        with_reducible rfl
       rotate_left
       ·simp only [Act.put, List.setIfInBounds_toArray, List.set_cons_zero, List.set_cons_succ, i64_w, i32_w]
        rfl
       refine pure_ (i := 9) (N := some 31) (v := ?_) (a' := ?_) #[true, true, true, true, true, true, true, true, true, true, false, false] rfl rfl (any_of HT_.out (by kernel_rfl)) (fun _ _ _ h => h) (Or.inl ⟨by rfl, ?_⟩) ?_ ?_
       rotate_left
       ·intro w'
        go_simp
        with_reducible rfl
       rotate_left
       ·simp only [Act.put, List.setIfInBounds_toArray, List.set_cons_zero, List.set_cons_succ, i64_w, i32_w]
        rfl
       refine take_ (i := 10) (N := some 32) (v := ?_) (a' := ?_) #[true, true, true, true, true, true, true, true, true, true, true, false] rfl rfl (take_ofW HT_.out HW_.out (by kernel_rfl)) (fun _ _ _ h => h) (Or.inl ⟨by rfl, ?_⟩) hHeld ?_ ?_
       rotate_left
       ·rintro w' ⟨s0, s1, s2, s3⟩
        go_simp
        with_reducible rfl
       rotate_left
       ·simp only [Act.put, List.setIfInBounds_toArray, List.set_cons_zero, List.set_cons_succ, i64_w, i32_w]
        rfl
       refine pure_ (i := 11) (N := some 5) (v := ?_) (a' := ?_) #[true, true, true, true, true, true, true, true, true, true, true, true] rfl rfl (any_of HT_.out (by kernel_rfl)) (fun _ _ _ h => h) (Or.inl ⟨by rfl, ?_⟩) ?_ ?_
       rotate_left
       ·intro w'
        go_simp
        with_reducible rfl
       rotate_left
       ·simp only [Act.put, List.setIfInBounds_toArray, List.set_cons_zero, List.set_cons_succ, i64_w, i32_w]
        rfl
       refine done_ (done_of HT_.out (by kernel_rfl)) ?_
       try go_wp2
       replace HO413 := Aside0.mk (Kd.R_drew HO413.out); replace HO416 := Aside0.mk (Kd.R_drew HO416.out); replace HO420 := Aside0.mk (Kd.R_drew HO420.out); replace BK417 := Aside0.mk (blk_drew BK417.out); replace HB := Aside0.mk (below_drew1 HB.out)
       have p423 : 0 ≤ (1 : Int) := (by omega)
       have q423 : 1 < (t418.length : Int) := of_decide_eq_true As_
       obtain ⟨ad423, e423, hx423_0⟩ := Kd.at_int (Kd.R_reads' HO420.out).2.2 1 p423 q423
       obtain rfl : ad421 = ad423 := (by injection e423)
       (try simp only [show (1 : Int).toNat = 1 from rfl, Nat.reduceMul, Nat.reduceEqDiff, Go.Addr.add, ↓reduceIte] at hx423_0)
       have qi423 : (1 < t418.length) = True := eq_true (by omega)
       (try rw [show ((1 : Int)).toNat = 1 from rfl] at hx423_0)
       replace p423 := eq_true p423
       replace q423 := eq_true q423
       refine start_ (n := 8) (S := fun w' => w'.cell? ⟨gb417, 0, none⟩ = some (.slice (some ad422) t411.length co15) ∧ w'.cell? ⟨gb417, 1, none⟩ = some (.slice Ao17 t414.length co17) ∧ w'.cell? ⟨ad421.block, ad421.off + 1, none⟩ = some (.int .i64 (rd t418 1))) (ds := []) #[false, false, false, false, false, false, false, false] (by kernel_rfl) rfl rfl ⟨(blk_cell BK417.out 0).trans rfl, (blk_cell BK417.out 1).trans rfl, hx423_0⟩ (fun hHeld => ?_); refine with_tabW laws_FnEnvs.tab6 laws_FnEnvs.bits6 (fun HT_ HW_ => ?_)
       generalize w19.drew = w21 at HO413 HO416 HO420 BK417 HB hx423_0 hHeld ⊢
       refine pure_ (i := 1) (N := some 34) (v := ?_) (a' := ?_) #[false, true, false, false, false, false, false, false] rfl rfl (any_of HT_.out (by kernel_rfl)) (fun _ _ _ h => h) (Or.inl ⟨by rfl, ?_⟩) ?_ ?_
       rotate_left
       ·intro w'
        go_simp
        with_reducible rfl
       rotate_left
       ·simp only [Act.put, List.setIfInBounds_toArray, List.set_cons_zero, List.set_cons_succ, i64_w, i32_w]
        rfl
       refine pure_ (i := 2) (N := some 35) (v := ?_) (a' := ?_) #[false, true, true, false, false, false, false, false] rfl rfl (any_of HT_.out (by kernel_rfl)) (fun _ _ _ h => h) (Or.inl ⟨by rfl, ?_⟩) ?_ ?_
       rotate_left
       ·intro w'
        go_simp
        with_reducible rfl
       rotate_left
       ·simp only [Act.put, List.setIfInBounds_toArray, List.set_cons_zero, List.set_cons_succ, i64_w, i32_w]
        rfl
       refine pure_ (i := 3) (N := some 36) (v := ?_) (a' := ?_) #[false, true, true, true, false, false, false, false] rfl rfl (any_of HT_.out (by kernel_rfl)) (fun _ _ _ h => h) (Or.inl ⟨by rfl, ?_⟩) ?_ ?_
       rotate_left
       ·intro w'
        go_simp
        with_reducible rfl
       rotate_left
       ·simp only [Act.put, List.setIfInBounds_toArray, List.set_cons_zero, List.set_cons_succ, i64_w, i32_w]
        rfl
       refine take_ (i := 0) (N := some 33) (v := ?_) (a' := ?_) #[true, true, true, true, false, false, false, false] rfl rfl (take_ofW HT_.out HW_.out (by kernel_rfl)) (fun _ _ _ h => h) (Or.inl ⟨by rfl, ?_⟩) hHeld ?_ ?_
       rotate_left
       ·rintro w' ⟨s0, s1, s2⟩
        go_simp
        with_reducible rfl
       rotate_left
       ·simp only [Act.put, List.setIfInBounds_toArray, List.set_cons_zero, List.set_cons_succ, i64_w, i32_w]
        rfl
       refine take_ (i := 4) (N := some 37) (v := ?_) (a' := ?_) #[true, true, true, true, true, false, false, false] rfl rfl (take_ofW HT_.out HW_.out (by kernel_rfl)) (fun _ _ _ h => h) (Or.inl ⟨by rfl, ?_⟩) hHeld ?_ ?_
       rotate_left
       ·rintro w' ⟨s0, s1, s2⟩
        go_simp
        with_reducible rfl
       rotate_left
       ·simp only [Act.put, List.setIfInBounds_toArray, List.set_cons_zero, List.set_cons_succ, i64_w, i32_w]
        rfl
       refine join_ (σ := Value × Value × Nat) 1 #[true, true, true, true, true, true, true, false] (fun s_ => [(38, .agg #[s_.1, s_.2.1]), (6, .pointer (some ⟨s_.2.2, 0, none⟩))]) (fun s_ w' => (w'.cell? ⟨gb417, 0, none⟩ = some (.slice (some ad422) t411.length co15) ∧ w'.cell? ⟨gb417, 1, none⟩ = some (.slice Ao17 t414.length co17) ∧ w'.cell? ⟨ad421.block, ad421.off + 1, none⟩ = some (.int .i64 (rd t418 1))) ∧ (Kd.R Kd.string 9 w' w.heap.size (fun k_ => some k_ ≠ (s_.1 : Value).ownBlock) (.slice (some ad422) t411.length co15) t411) ∧ (Kd.R (Kd.int .i64) 3 w' w.heap.size (fun k_ => some k_ ≠ (.slice (some ad421) t418.length co20 : Value).ownBlock ∧ some k_ ≠ (s_.2.1 : Value).ownBlock) (.slice Ao17 t414.length co17) t414) ∧ (Kd.R (Kd.int .i64) 3 w' w.heap.size (fun k_ => some k_ ≠ (.slice Ao17 t414.length co17 : Value).ownBlock ∧ some k_ ≠ (s_.2.1 : Value).ownBlock) (.slice (some ad421) t418.length co20) t418) ∧ (Kd.R Kd.string 9 w' w.heap.size (fun k_ => some k_ ≠ (.slice (some ad422) t411.length co15 : Value).ownBlock) s_.1 t424) ∧ (Kd.R (Kd.int .i64) 3 w' w.heap.size (fun k_ => some k_ ≠ (.slice Ao17 t414.length co17 : Value).ownBlock ∧ some k_ ≠ (.slice (some ad421) t418.length co20 : Value).ownBlock) s_.2.1 t427) ∧ (w'.heap[gb417]? = some (.cells #[.slice (some ad422) t411.length co15, .slice Ao17 t414.length co17] 28 (0, 0))) ∧ (w'.heap[s_.2.2]? = some (.cells #[.slice none 0 0, .slice none 0 0] 28 (0, 0))) ∧ (w.heap.size ≤ s_.2.2) ∧ (w.heap.size ≤ s_.2.2) ∧ (gb417 ≠ s_.2.2) ∧ (s_.2.2 ≠ gb417) ∧ (Below w.heap.size w w')) ?_ ?_
       rotate_left
       ·intro hCont
        refine two_ (i := 5) (j := 6) (Ni := some 38) (Nj := some 6) #[true, true, true, true, true, true, false, false] #[true, true, true, true, true, false, true, false] rfl rfl rfl rfl (two_of HT_.out (by kernel_rfl)) (by decide) (by decide) (fun K hK => ?_) (fun K hK => ?_)
        ·skip
         refine goes_ Try.func19 (by kernel_rfl) rfl #[.agg #[.slice (some ad422) t411.length co15, .slice Ao17 t414.length co17], .string (rdOf ByteArray.empty t411 (ji8)), .int .i64 (rd t418 1)] (by rfl) rfl rfl (by (try simp only [List.map_toArray, List.map_cons, List.map_nil]); first | done | (simp only [hji8]; rfl) | rfl | (simp only [List.length_drop, List.length_take]; rfl)) ?_
         with_reducible refine (impl_PutIn.calls k _ _ t411 _ _ t414 (rdOf ByteArray.empty t411 (ji8)) (rd t418 1) t424 t427 _ ?side1 ?side2 ?side3 ?side4 A12.out).mono ?_
         (case side1 => exact Cq_ (Kd.R_reads' HO413.out).2.2)
         (case side2 => exact (Kd.R_reads' HO413.out).2.1)
         (case side3 => exact Cq_ (Kd.R_reads' HO416.out).2.2)
         (case side4 => exact (Kd.R_reads' HO416.out).2.1)
         rintro e w22 ⟨v425, v428, rfl, ho0, ho1, hb⟩
         have HS2_ := (hb.cell (World.block_lt_of_cell? _ _ (hHeld.2.2))).trans (hHeld.2.2)
         refine ⟨_, rfl, ?_⟩
         have HO426 := Aside0.mk (Kd.R_lower (Kd.R_new' ho0 (Kd.R_lt (Rq_ HO413))) (below_size (Hf_ HB))); have HO429 := Aside0.mk (Kd.R_lower (Kd.R_new' (Kd.R_new' ho1 (Kd.R_lt (Rq_ HO416))) (Kd.R_lt (Rq_ HO420))) (below_size (Hf_ HB))); replace HO413 := Rl_ HO413 ho0 hb; replace HO416 := Rl_ HO416 ho1 hb; replace HO420 := Rl_ HO420 ho1 hb; replace BK417 := Bb_ BK417 hb; replace HB := Hs_ HB hb
         (try clear hb)
         (try clear hb2)
         (try clear hk)
         (try clear hi)
         (try clear ho0)
         (try clear ho1)
         refine hK.out _ _ ⟨(blk_cell BK417.out 0).trans rfl, (blk_cell BK417.out 1).trans rfl, HS2_⟩ (fun hHeld => ?_)
         clear hK K
         refine norm_ (a' := ?_) ?_ ?_
         rotate_left
         ·show Act.put _ (some 38) _ = _
          simp only [Act.put, List.setIfInBounds_toArray, List.set_cons_zero, List.set_cons_succ, i64_w, i32_w]
          rfl
         refine one_ (i := 6) (N := some 6) #[true, true, true, true, true, true, true, false] rfl rfl (one_of HT_.out (by kernel_rfl)) (by decide) (fun K hK => ?_)
         refine box_step ?hg (N := 6) ?hd (cs := #[.slice none 0 0, .slice none 0 0]) (t := 28) ?hr ?_; (case hd => rfl); (case hg => rfl); (case hr => first | (go_simp; done) | (go_simp; rfl))
         intro gb430 hg w23 hbox hb
         have HS2_ := (hb.cell (World.block_lt_of_cell? _ _ (hHeld.2.2))).trans (hHeld.2.2)
         have BK430 := Aside0.mk (hbox); have GW430 := Hg_ HB hg; have GE430 := GW430; have NB417_430 := Bl_ BK417 hg; have NB430_417 := Bm_ NB417_430; replace HO413 := Rb_ HO413 hb; replace HO416 := Rb_ HO416 hb; replace HO420 := Rb_ HO420 hb; replace HO426 := Rb_ HO426 hb; replace HO429 := Rb_ HO429 hb; replace BK417 := Bb_ BK417 hb; replace HB := Hs_ HB hb
         clear hb hbox hg
         refine hK.out _ _ ⟨(blk_cell BK417.out 0).trans rfl, (blk_cell BK417.out 1).trans rfl, HS2_⟩ (fun hHeld => ?_)
         clear hK K
         refine norm_ (a' := ?_) ?_ ?_
         rotate_left
         ·show Act.put _ (some 6) _ = _
          simp only [Act.put, List.setIfInBounds_toArray, List.set_cons_zero, List.set_cons_succ, i64_w, i32_w]
          rfl
         exact norm_ (by simp only [putAll, Act.put, List.setIfInBounds_toArray, List.set_cons_zero, List.set_cons_succ]) (hCont (v425, v428, gb430) _ ⟨hHeld, (Rm_ HO413 (fun _ hk => hk.2)), (Rm_ HO416 (fun _ hk => ⟨hk.1.2, hk.2⟩)), (Rm_ HO420 (fun _ hk => ⟨hk.1.2, hk.2⟩)), (Rm_ HO426 (fun _ hk => hk.2)), (Rm_ HO429 (fun _ hk => ⟨hk.1.2, hk.2⟩)), (Bq_ BK417), (Bq_ BK430), GW430.out, GE430.out, NB417_430.out, NB430_417.out, (Hf_ HB)⟩)
        ·skip
         refine box_step ?hg (N := 6) ?hd (cs := #[.slice none 0 0, .slice none 0 0]) (t := 28) ?hr ?_; (case hd => rfl); (case hg => rfl); (case hr => first | (go_simp; done) | (go_simp; rfl))
         intro gb430 hg w22 hbox hb
         have HS2_ := (hb.cell (World.block_lt_of_cell? _ _ (hHeld.2.2))).trans (hHeld.2.2)
         have BK430 := Aside0.mk (hbox); have GW430 := Hg_ HB hg; have GE430 := GW430; have NB417_430 := Bl_ BK417 hg; have NB430_417 := Bm_ NB417_430; replace HO413 := Rb_ HO413 hb; replace HO416 := Rb_ HO416 hb; replace HO420 := Rb_ HO420 hb; replace BK417 := Bb_ BK417 hb; replace HB := Hs_ HB hb
         clear hb hbox hg
         refine hK.out _ _ ⟨(blk_cell BK417.out 0).trans rfl, (blk_cell BK417.out 1).trans rfl, HS2_⟩ (fun hHeld => ?_)
         clear hK K
         refine norm_ (a' := ?_) ?_ ?_
         rotate_left
         ·show Act.put _ (some 6) _ = _
          simp only [Act.put, List.setIfInBounds_toArray, List.set_cons_zero, List.set_cons_succ, i64_w, i32_w]
          rfl
         refine one_ (i := 5) (N := some 38) #[true, true, true, true, true, true, true, false] rfl rfl (one_of HT_.out (by kernel_rfl)) (by decide) (fun K hK => ?_)
         refine goes_ Try.func19 (by kernel_rfl) rfl #[.agg #[.slice (some ad422) t411.length co15, .slice Ao17 t414.length co17], .string (rdOf ByteArray.empty t411 (ji8)), .int .i64 (rd t418 1)] (by rfl) rfl rfl (by (try simp only [List.map_toArray, List.map_cons, List.map_nil]); first | done | (simp only [hji8]; rfl) | rfl | (simp only [List.length_drop, List.length_take]; rfl)) ?_
         with_reducible refine (impl_PutIn.calls k _ _ t411 _ _ t414 (rdOf ByteArray.empty t411 (ji8)) (rd t418 1) t424 t427 _ ?side1 ?side2 ?side3 ?side4 A12.out).mono ?_
         (case side1 => exact Cq_ (Kd.R_reads' HO413.out).2.2)
         (case side2 => exact (Kd.R_reads' HO413.out).2.1)
         (case side3 => exact Cq_ (Kd.R_reads' HO416.out).2.2)
         (case side4 => exact (Kd.R_reads' HO416.out).2.1)
         rintro e w23 ⟨v425, v428, rfl, ho0, ho1, hb⟩
         have HS2_ := (hb.cell (World.block_lt_of_cell? _ _ (hHeld.2.2))).trans (hHeld.2.2)
         refine ⟨_, rfl, ?_⟩
         have HO426 := Aside0.mk (Kd.R_lower (Kd.R_new' ho0 (Kd.R_lt (Rq_ HO413))) (below_size (Hf_ HB))); have HO429 := Aside0.mk (Kd.R_lower (Kd.R_new' (Kd.R_new' ho1 (Kd.R_lt (Rq_ HO416))) (Kd.R_lt (Rq_ HO420))) (below_size (Hf_ HB))); replace HO413 := Rl_ HO413 ho0 hb; replace HO416 := Rl_ HO416 ho1 hb; replace HO420 := Rl_ HO420 ho1 hb; replace BK417 := Bb_ BK417 hb; replace BK430 := Bb_ BK430 hb; replace HB := Hs_ HB hb
         (try clear hb)
         (try clear hb2)
         (try clear hk)
         (try clear hi)
         (try clear ho0)
         (try clear ho1)
         refine hK.out _ _ ⟨(blk_cell BK417.out 0).trans rfl, (blk_cell BK417.out 1).trans rfl, HS2_⟩ (fun hHeld => ?_)
         clear hK K
         refine norm_ (a' := ?_) ?_ ?_
         rotate_left
         ·show Act.put _ (some 38) _ = _
          simp only [Act.put, List.setIfInBounds_toArray, List.set_cons_zero, List.set_cons_succ, i64_w, i32_w]
          rfl
         exact norm_ (by simp only [putAll, Act.put, List.setIfInBounds_toArray, List.set_cons_zero, List.set_cons_succ]) (hCont (v425, v428, gb430) _ ⟨hHeld, (Rm_ HO413 (fun _ hk => hk.2)), (Rm_ HO416 (fun _ hk => ⟨hk.1.2, hk.2⟩)), (Rm_ HO420 (fun _ hk => ⟨hk.1.2, hk.2⟩)), (Rm_ HO426 (fun _ hk => hk.2)), (Rm_ HO429 (fun _ hk => ⟨hk.1.2, hk.2⟩)), (Bq_ BK417), (Bq_ BK430), GW430.out, GE430.out, NB417_430.out, NB430_417.out, (Hf_ HB)⟩)
       rintro ⟨v425, v428, gb430⟩ w24 ⟨hS_, h0_, h1_, h2_, h3_, h4_, h5_, h6_, h7_, h8_, h9_, h10_, h11_⟩
       have n0_ : Aside0 (Kd.R Kd.string 9 w24 w.heap.size (fun k_ => some k_ ≠ (v425 : Value).ownBlock) (.slice (some ad422) t411.length co15) t411) := ⟨h0_⟩
       have n1_ : Aside0 (Kd.R (Kd.int .i64) 3 w24 w.heap.size (fun k_ => some k_ ≠ (.slice (some ad421) t418.length co20 : Value).ownBlock ∧ some k_ ≠ (v428 : Value).ownBlock) (.slice Ao17 t414.length co17) t414) := ⟨h1_⟩
       have n2_ : Aside0 (Kd.R (Kd.int .i64) 3 w24 w.heap.size (fun k_ => some k_ ≠ (.slice Ao17 t414.length co17 : Value).ownBlock ∧ some k_ ≠ (v428 : Value).ownBlock) (.slice (some ad421) t418.length co20) t418) := ⟨h2_⟩
       have n3_ : Aside0 (Kd.R Kd.string 9 w24 w.heap.size (fun k_ => some k_ ≠ (.slice (some ad422) t411.length co15 : Value).ownBlock) v425 t424) := ⟨h3_⟩
       have n4_ : Aside0 (Kd.R (Kd.int .i64) 3 w24 w.heap.size (fun k_ => some k_ ≠ (.slice Ao17 t414.length co17 : Value).ownBlock ∧ some k_ ≠ (.slice (some ad421) t418.length co20 : Value).ownBlock) v428 t427) := ⟨h4_⟩
       have n5_ : Aside0 (w24.heap[gb417]? = some (.cells #[.slice (some ad422) t411.length co15, .slice Ao17 t414.length co17] 28 (0, 0))) := ⟨h5_⟩
       have n6_ : Aside0 (w24.heap[gb430]? = some (.cells #[.slice none 0 0, .slice none 0 0] 28 (0, 0))) := ⟨h6_⟩
       have n7_ : Aside0 (w.heap.size ≤ gb430) := ⟨h7_⟩
       have n8_ : Aside0 (w.heap.size ≤ gb430) := ⟨h8_⟩
       have n9_ : Aside0 (gb417 ≠ gb430) := ⟨h9_⟩
       have n10_ : Aside0 (gb430 ≠ gb417) := ⟨h10_⟩
       have n11_ : Aside0 (Below w.heap.size w w24) := ⟨h11_⟩
       clear HO413
       clear HO416
       clear HO420
       clear BK417
       clear HB
       clear h0_ h1_ h2_ h3_ h4_ h5_ h6_ h7_ h8_ h9_ h10_ h11_
       have HO413 := n0_
       have HO416 := n1_
       have HO420 := n2_
       have HO426 := n3_
       have HO429 := n4_
       have BK417 := n5_
       have BK430 := n6_
       have GW430 := n7_
       have GE430 := n8_
       have NB417_430 := n9_
       have NB430_417 := n10_
       have HB := n11_
       clear n0_ n1_ n2_ n3_ n4_ n5_ n6_ n7_ n8_ n9_ n10_ n11_
       have hHeld : w24.cell? ⟨gb417, 0, none⟩ = some (.slice (some ad422) t411.length co15) ∧ w24.cell? ⟨gb417, 1, none⟩ = some (.slice Ao17 t414.length co17) ∧ w24.cell? ⟨ad421.block, ad421.off + 1, none⟩ = some (.int .i64 (rd t418 1)) := hS_
       obtain ⟨Ao25, co25, eo25⟩ := Kd.R_slice HO426.out
       (first | subst eo25 | (injection eo25 with f1_ f2_ f3_; have f4_ := f1_.symm; have f5_ := f3_.symm; clear f1_ f2_ f3_; subst f4_; subst f5_))
       obtain ⟨Ao27, co27, eo27⟩ := Kd.R_slice HO429.out
       (first | subst eo27 | (injection eo27 with f1_ f2_ f3_; have f4_ := f1_.symm; have f5_ := f3_.symm; clear f1_ f2_ f3_; subst f4_; subst f5_))
       refine norm_ (a' := ?_) ?_ ?_
       rotate_left
       ·simp only [putAll, Act.put, List.setIfInBounds_toArray, List.set_cons_zero, List.set_cons_succ]
        rfl
       refine one_ (i := 7) (N := none) #[true, true, true, true, true, true, true, true] rfl rfl (one_of HT_.out (by kernel_rfl)) (by decide) (fun K hK => ?_)
       have hs26 : w24.cell? ⟨gb430, 0, none⟩ = some (.slice none 0 0) := (blk_cell BK430.out 0).trans rfl
       have hfs26 := blk_frozen BK430.out 0
       have hns26_0 := NB417_430.out
       have hms26_0 := NB430_417.out
       have hs28 : w24.cell? ⟨gb430, 1, none⟩ = some (.slice none 0 0) := (blk_cell BK430.out 1).trans rfl
       have hfs28 := blk_frozen BK430.out 1
       have hns28_0 := NB417_430.out
       have hms28_0 := NB430_417.out
       refine skip_ (w1 := ?_) (by rfl) rfl ?_ ?_
       rotate_left
       ·go_simp
        rfl
       refine hK.out _ _ ⟨((cell_far (p := ⟨gb430, _, none⟩) NB417_430.out _).trans (((cell_far (p := ⟨gb430, _, none⟩) NB417_430.out _).trans (hHeld.1)))), ((cell_far (p := ⟨gb430, _, none⟩) NB417_430.out _).trans (((cell_far (p := ⟨gb430, _, none⟩) NB417_430.out _).trans (hHeld.2.1)))), ((cell_far (p := ⟨gb430, _, none⟩) (by first | exact Kd.own_blk (Kd.R_ne HO420.out BK430.out (by decide)) | (rw [add_block]; exact Kd.own_blk (Kd.R_ne HO420.out BK430.out (by decide))) | (show (Addr.add _ _).block ≠ _; rw [add_block]; exact Kd.own_blk (Kd.R_ne HO420.out BK430.out (by decide))) | (dsimp only; exact Kd.own_blk (Kd.R_ne HO420.out BK430.out (by decide)))) _).trans (((cell_far (p := ⟨gb430, _, none⟩) (by first | exact Kd.own_blk (Kd.R_ne HO420.out BK430.out (by decide)) | (rw [add_block]; exact Kd.own_blk (Kd.R_ne HO420.out BK430.out (by decide))) | (show (Addr.add _ _).block ≠ _; rw [add_block]; exact Kd.own_blk (Kd.R_ne HO420.out BK430.out (by decide))) | (dsimp only; exact Kd.own_blk (Kd.R_ne HO420.out BK430.out (by decide)))) _).trans (hHeld.2.2))))⟩ (fun hHeld => ?_)
       clear hK K
       refine done_ (done_of HT_.out (by kernel_rfl)) ?_
       try go_wp2
       go_loopg [7] k (fun kq v7 w' => ∃ (x7_1 : Int), v7 = .int .i64 x7_1 ∧ Aside0 (laws_FnEnvs.l0 kq l0 t418 (rdOf ByteArray.empty t411 (ji8)) x7_1 t411 t414 t424 t427 = some r) ∧ Aside0 (kq ≤ k) ∧ Aside0 (Kd.R (Kd.int .i64) 3 w' w.heap.size (fun k_ => some k_ ≠ ((.slice Ao17 t414.length co17) : Value).ownBlock ∧ some k_ ≠ ((.slice Ao27 t427.length co27) : Value).ownBlock) (.slice (some ad421) t418.length co20) t418) ∧ Aside0 (Kd.R Kd.string 9 w' w.heap.size (fun k_ => some k_ ≠ ((.slice Ao25 t424.length co25) : Value).ownBlock) (.slice (some ad422) t411.length co15) t411) ∧ Aside0 (Kd.R (Kd.int .i64) 3 w' w.heap.size (fun k_ => some k_ ≠ ((.slice (some ad421) t418.length co20) : Value).ownBlock ∧ some k_ ≠ ((.slice Ao27 t427.length co27) : Value).ownBlock) (.slice Ao17 t414.length co17) t414) ∧ Aside0 (Kd.R Kd.string 9 w' w.heap.size (fun k_ => some k_ ≠ ((.slice (some ad422) t411.length co15) : Value).ownBlock) (.slice Ao25 t424.length co25) t424) ∧ Aside0 (Kd.R (Kd.int .i64) 3 w' w.heap.size (fun k_ => some k_ ≠ ((.slice (some ad421) t418.length co20) : Value).ownBlock ∧ some k_ ≠ ((.slice Ao17 t414.length co17) : Value).ownBlock) (.slice Ao27 t427.length co27) t427) ∧ Aside0 (w'.heap[gb417]? = some (.cells #[(.slice (some ad422) t411.length co15), (.slice Ao17 t414.length co17)] 28 (0, 0))) ∧ Aside0 (w'.heap[gb430]? = some (.cells #[(.slice Ao25 t424.length co25), (.slice Ao27 t427.length co27)] 28 (0, 0))) ∧ Aside0 (Below w.heap.size w w'))
       case atStart => exact ⟨(0), Rr_, H', ⟨Nat.le_refl _⟩, ⟨by (with_reducible repeat (first | apply Kd.R_alloc | apply Kd.R_drewN | apply Kd.R_drew)); exact Kd.R_mono (Kd.R_far (p := ⟨gb430, 1, none⟩) (Kd.R_far (p := ⟨gb430, 0, none⟩) (Kd.R_types HO420.out BK430.out (by decide)) (fun _ hk => hk.2) (.slice Ao25 t424.length co25)) (fun _ hk => hk.2) (.slice Ao27 t427.length co27)) (fun _ hk => ⟨hk.1.1, hk.1.2⟩)⟩, ⟨by (with_reducible repeat (first | apply Kd.R_alloc | apply Kd.R_drewN | apply Kd.R_drew)); exact Kd.R_mono (Kd.R_far (p := ⟨gb430, 1, none⟩) (Kd.R_far (p := ⟨gb430, 0, none⟩) (Kd.R_types HO413.out BK430.out (by decide)) (fun _ hk => hk.2) (.slice Ao25 t424.length co25)) (fun _ hk => hk.2) (.slice Ao27 t427.length co27)) (fun _ hk => hk.1)⟩, ⟨by (with_reducible repeat (first | apply Kd.R_alloc | apply Kd.R_drewN | apply Kd.R_drew)); exact Kd.R_mono (Kd.R_far (p := ⟨gb430, 1, none⟩) (Kd.R_far (p := ⟨gb430, 0, none⟩) (Kd.R_types HO416.out BK430.out (by decide)) (fun _ hk => hk.2) (.slice Ao25 t424.length co25)) (fun _ hk => hk.2) (.slice Ao27 t427.length co27)) (fun _ hk => ⟨hk.1.1, hk.1.2⟩)⟩, ⟨by (with_reducible repeat (first | apply Kd.R_alloc | apply Kd.R_drewN | apply Kd.R_drew)); exact Kd.R_mono (Kd.R_far (p := ⟨gb430, 1, none⟩) (Kd.R_far (p := ⟨gb430, 0, none⟩) (Kd.R_types HO426.out BK430.out (by decide)) (fun _ hk => hk.2) (.slice Ao25 t424.length co25)) (fun _ hk => hk.2) (.slice Ao27 t427.length co27)) (fun _ hk => hk.1)⟩, ⟨by (with_reducible repeat (first | apply Kd.R_alloc | apply Kd.R_drewN | apply Kd.R_drew)); exact Kd.R_mono (Kd.R_far (p := ⟨gb430, 1, none⟩) (Kd.R_far (p := ⟨gb430, 0, none⟩) (Kd.R_types HO429.out BK430.out (by decide)) (fun _ hk => hk.2) (.slice Ao25 t424.length co25)) (fun _ hk => hk.2) (.slice Ao27 t427.length co27)) (fun _ hk => ⟨hk.1.2, hk.1.1⟩)⟩, ⟨by (with_reducible repeat (first | refine blk_drewN ?_ _ | refine blk_drew ?_ | refine blk_alloc ?_ _)); refine blk_far ?_ NB417_430.out _; (with_reducible repeat (first | refine blk_drewN ?_ _ | refine blk_drew ?_ | refine blk_alloc ?_ _)); refine blk_far ?_ NB417_430.out _; (with_reducible repeat (first | refine blk_drewN ?_ _ | refine blk_drew ?_ | refine blk_alloc ?_ _)); exact BK417.out⟩, ⟨by (with_reducible repeat (first | refine blk_drewN ?_ _ | refine blk_drew ?_ | refine blk_alloc ?_ _)); refine blk_put (cs := #[.slice Ao25 t424.length co25, .slice none 0 0]) ?_ 1 _ rfl; (with_reducible repeat (first | refine blk_drewN ?_ _ | refine blk_drew ?_ | refine blk_alloc ?_ _)); refine blk_put (cs := #[.slice none 0 0, .slice none 0 0]) ?_ 0 _ rfl; (with_reducible repeat (first | refine blk_drewN ?_ _ | refine blk_drew ?_ | refine blk_alloc ?_ _)); exact BK430.out⟩, ⟨Hf_ HB⟩⟩
       case round =>
        clear H'
        try clear c1
        try clear p2
        try clear c3
        try clear p4
        try clear q4
        try clear hx4
        try clear qi4
        try clear c6
        try clear c6b0
        try clear c6b1
        try clear c7
        try clear c7b0
        try clear c7b1
        try clear c7b2
        try clear c8
        try clear c9
        try clear c9b0
        try clear c10
        try clear c10b0
        try clear c11
        try clear c11b0
        try clear c11b1
        try clear c19
        try clear hcz16_0
        try clear hcz16_1
        try clear hfz16_0
        try clear hfz16_1
        try clear hx421_0
        try clear hx422_0
        try clear hx423_0
        try clear p421
        try clear p422
        try clear p423
        try clear q421
        try clear q422
        try clear q423
        obtain ⟨x7_1, rfl, HA, HK1, HO_4, HO_418000, HO_418001, HO_431000, HO_431001, BK417, BK430, HB⟩ := hrel
        cases gk with
        | zero => exact absurd HA.out (by simp [laws_FnEnvs.l0])
        | succ k1 =>
         have H := HA.out
         clear HA
         simp only [laws_FnEnvs.l0] at H
         by_cases c29 : x7_1 < (t411.length : Int)
         ·rw [if_pos c29] at H
          have c29b0 : decide (x7_1 < (t411.length : Int)) = true := decide_eq_true c29
          clear c29
          by_cases c30 : 0 ≤ x7_1
          ·rw [if_pos c30] at H
           have c30b0 : decide (0 ≤ x7_1) = true := decide_eq_true c30
           clear c30
           by_cases c31 : x7_1 < (t414.length : Int)
           ·rw [if_pos c31] at H
            have c31b0 : decide (x7_1 < (t414.length : Int)) = true := decide_eq_true c31
            clear c31
            by_cases c32 : (rdOf ByteArray.empty t411 x7_1).toList = (rdOf ByteArray.empty t411 (ji8)).toList
            ·rw [if_pos c32] at H
             have c32b0 : ((rdOf ByteArray.empty t411 x7_1).toList == (rdOf ByteArray.empty t411 (ji8)).toList) = true := beq_iff_eq.mpr c32
             have c32b1 : ((rdOf ByteArray.empty t411 x7_1).toList != (rdOf ByteArray.empty t411 (ji8)).toList) = false := bne_eq_false_iff_eq.mpr c32
             clear c32
             by_cases c33 : 1 < (t418.length : Int)
             ·rw [if_pos c33] at H
              have c33b0 : decide (1 < (t418.length : Int)) = true := decide_eq_true c33
              have c33b1 : decide (1 < t418.length) = true := decide_eq_true (by omega)
              clear c33
              replace H := Option.bind_eq_some_iff.mp H
              obtain ⟨t435, A340, H⟩ := H
              replace H : (if t435 = (rd t418 1) then (laws_FnEnvs.l0 k1 l0 t418 (rdOf ByteArray.empty t411 (ji8)) (wrap64 (x7_1 + 1)) t411 t414 t424 t427) else (some false)) = some r := H
              have A34 := Aside0.mk A340
              clear A340
              by_cases c35 : t435 = (rd t418 1)
              ·rw [if_pos c35] at H
               have c35b0 : (t435 == (rd t418 1)) = true := beq_iff_eq.mpr c35
               have c35b1 : (t435 != (rd t418 1)) = false := bne_eq_false_iff_eq.mpr c35
               clear c35
               have H' := Aside0.mk H
               clear H
               have hnb36 := NB417_430.out
               have hnc36 := NB430_417.out
               obtain ⟨hcz37_0, hcz37_1, hfz37_0, hfz37_1⟩ := Bc2_ BK417
               have p431 : 0 ≤ (x7_1 : Int) := of_decide_eq_true As_
               have q431 : x7_1 < (t414.length : Int) := of_decide_eq_true As_
               obtain ⟨ad431, e431, hx431_0⟩ := Kd.at_int (Kd.R_reads' HO_418001.out).2.2 x7_1 p431 q431
               cases e431
               replace p431 := eq_true p431
               replace q431 := eq_true q431
               have p432 : 0 ≤ (x7_1 : Int) := of_decide_eq_true As_
               have q432 : x7_1 < (t411.length : Int) := of_decide_eq_true As_
               obtain ⟨ad432, e432, hx432_0⟩ := Kd.at_string (Kd.R_reads' HO_418000.out).2.2 x7_1 p432 q432
               obtain rfl : ad422 = ad432 := (by injection e432)
               replace p432 := eq_true p432
               replace q432 := eq_true q432
               have p433 : 0 ≤ (1 : Int) := (by omega)
               have q433 : 1 < (t418.length : Int) := of_decide_eq_true As_
               obtain ⟨ad433, e433, hx433_0⟩ := Kd.at_int (Kd.R_reads' HO_4.out).2.2 1 p433 q433
               obtain rfl : ad421 = ad433 := (by injection e433)
               (try simp only [show (1 : Int).toNat = 1 from rfl, Nat.reduceMul, Nat.reduceEqDiff, Go.Addr.add, ↓reduceIte] at hx433_0)
               have qi433 : (1 < t418.length) = True := eq_true (by omega)
               (try rw [show ((1 : Int)).toNat = 1 from rfl] at hx433_0)
               replace p433 := eq_true p433
               replace q433 := eq_true q433
               try go_wp2
               replace HO_4 := Aside0.mk (Kd.R_drew HO_4.out); replace HO_418000 := Aside0.mk (Kd.R_drew HO_418000.out); replace HO_418001 := Aside0.mk (Kd.R_drew HO_418001.out); replace HO_431000 := Aside0.mk (Kd.R_drew HO_431000.out); replace HO_431001 := Aside0.mk (Kd.R_drew HO_431001.out); replace BK417 := Aside0.mk (blk_drew BK417.out); replace BK430 := Aside0.mk (blk_drew BK430.out); replace HB := Aside0.mk (below_drew1 HB.out)
               have p434 : 0 ≤ (x7_1 : Int) := of_decide_eq_true As_
               have q434 : x7_1 < (t411.length : Int) := of_decide_eq_true As_
               obtain ⟨ad434, e434, hx434_0⟩ := Kd.at_string (Kd.R_reads' HO_418000.out).2.2 x7_1 p434 q434
               obtain rfl : ad422 = ad434 := (by injection e434)
               replace p434 := eq_true p434
               replace q434 := eq_true q434
               refine start_ (n := 9) (S := fun w' => w'.cell? ⟨gb430, 0, none⟩ = some (.slice Ao25 t424.length co25) ∧ w'.cell? ⟨gb430, 1, none⟩ = some (.slice Ao27 t427.length co27) ∧ w'.cell? ⟨gb417, 0, none⟩ = some (.slice (some ad422) t411.length co15) ∧ w'.cell? ⟨gb417, 1, none⟩ = some (.slice (some ad431) t414.length co17) ∧ w'.cell? (ad422.add (x7_1).toNat) = some (.string (rdOf ByteArray.empty t411 x7_1))) (ds := []) #[false, false, false, false, false, false, false, false, false] (by kernel_rfl) rfl rfl ⟨(blk_cell BK430.out 0).trans rfl, (blk_cell BK430.out 1).trans rfl, (blk_cell BK417.out 0).trans rfl, (blk_cell BK417.out 1).trans rfl, hx434_0⟩ (fun hHeld => ?_); refine with_tabW laws_FnEnvs.tab13 laws_FnEnvs.bits13 (fun HT_ HW_ => ?_)
               generalize wr.drew = w38 at HO_4 HO_418000 HO_418001 HO_431000 HO_431001 BK417 BK430 HB hx434_0 hHeld ⊢
               refine pure_ (i := 1) (N := some 62) (v := ?_) (a' := ?_) #[false, true, false, false, false, false, false, false, false] rfl rfl (any_of HT_.out (by kernel_rfl)) (fun _ _ _ h => h) (Or.inl ⟨by rfl, ?_⟩) ?_ ?_
               rotate_left
               ·intro w'
                go_simp
                with_reducible rfl
               rotate_left
               ·simp only [Act.put, List.setIfInBounds_toArray, List.set_cons_zero, List.set_cons_succ, i64_w, i32_w]
                rfl
               refine pure_ (i := 3) (N := some 64) (v := ?_) (a' := ?_) #[false, true, false, true, false, false, false, false, false] rfl rfl (any_of HT_.out (by kernel_rfl)) (fun _ _ _ h => h) (Or.inl ⟨by rfl, ?_⟩) ?_ ?_
               rotate_left
               ·intro w'
                go_simp
                with_reducible rfl
               rotate_left
               ·simp only [Act.put, List.setIfInBounds_toArray, List.set_cons_zero, List.set_cons_succ, i64_w, i32_w]
                rfl
               refine pure_ (i := 7) (N := some 68) (v := ?_) (a' := ?_) #[false, true, false, true, false, false, false, true, false] rfl rfl (any_of HT_.out (by kernel_rfl)) (fun _ _ _ h => h) (Or.inl ⟨by rfl, ?_⟩) ?_ ?_
               rotate_left
               ·intro w'
                go_simp
                with_reducible rfl
               rotate_left
               ·simp only [Act.put, List.setIfInBounds_toArray, List.set_cons_zero, List.set_cons_succ, i64_w, i32_w]
                rfl
               refine take_ (i := 0) (N := some 61) (v := ?_) (a' := ?_) #[true, true, false, true, false, false, false, true, false] rfl rfl (take_ofW HT_.out HW_.out (by kernel_rfl)) (fun _ _ _ h => h) (Or.inl ⟨by rfl, ?_⟩) hHeld ?_ ?_
               rotate_left
               ·rintro w' ⟨s0, s1, s2, s3, s4⟩
                go_simp
                with_reducible rfl
               rotate_left
               ·simp only [Act.put, List.setIfInBounds_toArray, List.set_cons_zero, List.set_cons_succ, i64_w, i32_w]
                rfl
               refine take_ (i := 2) (N := some 63) (v := ?_) (a' := ?_) #[true, true, true, true, false, false, false, true, false] rfl rfl (take_ofW HT_.out HW_.out (by kernel_rfl)) (fun _ _ _ h => h) (Or.inl ⟨by rfl, ?_⟩) hHeld ?_ ?_
               rotate_left
               ·rintro w' ⟨s0, s1, s2, s3, s4⟩
                go_simp
                with_reducible rfl
               rotate_left
               ·simp only [Act.put, List.setIfInBounds_toArray, List.set_cons_zero, List.set_cons_succ, i64_w, i32_w]
                rfl
               refine pure_ (i := 4) (N := some 65) (v := ?_) (a' := ?_) #[true, true, true, true, true, false, false, true, false] rfl rfl (any_of HT_.out (by kernel_rfl)) (fun _ _ _ h => h) (Or.inl ⟨by rfl, ?_⟩) ?_ ?_
               rotate_left
               ·intro w'
                go_simp
                with_reducible rfl
               rotate_left
               ·simp only [Act.put, List.setIfInBounds_toArray, List.set_cons_zero, List.set_cons_succ, i64_w, i32_w]
                rfl
               refine take_ (i := 5) (N := some 66) (v := ?_) (a' := ?_) #[true, true, true, true, true, true, false, true, false] rfl rfl (take_ofW HT_.out HW_.out (by kernel_rfl)) (fun _ _ _ h => h) (Or.inl ⟨by rfl, ?_⟩) hHeld ?_ ?_
               rotate_left
               ·rintro w' ⟨s0, s1, s2, s3, s4⟩
                go_simp
                with_reducible rfl
               rotate_left
               ·simp only [Act.put, List.setIfInBounds_toArray, List.set_cons_zero, List.set_cons_succ, i64_w, i32_w]
                rfl
               refine one_ (i := 6) (N := some 67) #[true, true, true, true, true, true, true, true, false] rfl rfl (one_of HT_.out (by kernel_rfl)) (by decide) (fun K hK => ?_)
               refine goes_ Try.func39 (by kernel_rfl) rfl #[.agg #[.slice Ao25 t424.length co25, .slice Ao27 t427.length co27], .string (rdOf ByteArray.empty t411 x7_1)] (by rfl) rfl rfl Mp_ ?_
               with_reducible refine (impl_GetIn.calls k1 _ _ t424 _ _ t427 (rdOf ByteArray.empty t411 x7_1) t435 _ ?side1 ?side2 ?side3 ?side4 A34.out).mono ?_
               (case side1 => exact Cq_ (Kd.R_reads' HO_431000.out).2.2)
               (case side2 => exact (Kd.R_reads' HO_431000.out).2.1)
               (case side3 => exact Cq_ (Kd.R_reads' HO_431001.out).2.2)
               (case side4 => exact (Kd.R_reads' HO_431001.out).2.1)
               rintro e w39 ⟨rfl, hb⟩
               have HS4_ := (hb.cell (World.block_lt_of_cell? _ _ (hHeld.2.2.2.2))).trans (hHeld.2.2.2.2)
               refine ⟨_, rfl, ?_⟩
               replace HO_4 := Rb_ HO_4 hb; replace HO_418000 := Rb_ HO_418000 hb; replace HO_418001 := Rb_ HO_418001 hb; replace HO_431000 := Rb_ HO_431000 hb; replace HO_431001 := Rb_ HO_431001 hb; replace BK417 := Bb_ BK417 hb; replace BK430 := Bb_ BK430 hb; replace HB := Hs_ HB hb
               (try clear hb)
               (try clear hb2)
               (try clear hk)
               (try clear hi)
               refine hK.out _ _ ⟨(blk_cell BK430.out 0).trans rfl, (blk_cell BK430.out 1).trans rfl, (blk_cell BK417.out 0).trans rfl, (blk_cell BK417.out 1).trans rfl, HS4_⟩ (fun hHeld => ?_)
               clear hK K
               refine norm_ (a' := ?_) ?_ ?_
               rotate_left
               ·show Act.put _ (some 67) _ = _
                simp only [Act.put, List.setIfInBounds_toArray, List.set_cons_zero, List.set_cons_succ, i64_w, i32_w]
                rfl
               refine pure_ (i := 8) (N := some 69) (v := ?_) (a' := ?_) #[true, true, true, true, true, true, true, true, true] rfl rfl (any_of HT_.out (by kernel_rfl)) (fun _ _ _ h => h) (Or.inl ⟨by rfl, ?_⟩) ?_ ?_
               rotate_left
               ·intro w'
                go_simp
                with_reducible rfl
               rotate_left
               ·simp only [Act.put, List.setIfInBounds_toArray, List.set_cons_zero, List.set_cons_succ, i64_w, i32_w]
                rfl
               refine done_ (done_of HT_.out (by kernel_rfl)) ?_
               try go_wp2
               go_roundg k1
               case measure => have := HK1.out; omega
               case rel => exact ⟨(wrap64 (x7_1 + 1)), Rr_, H', ⟨by have := HK1.out; omega⟩, ⟨Rq_ HO_4⟩, ⟨Rq_ HO_418000⟩, ⟨Rq_ HO_418001⟩, ⟨Rq_ HO_431000⟩, ⟨Rq_ HO_431001⟩, ⟨Bq_ BK417⟩, ⟨Bq_ BK430⟩, ⟨Hf_ HB⟩⟩
              ·rw [if_neg c35] at H
               have c35b0 : (t435 == (rd t418 1)) = false := beq_eq_false_iff_ne.mpr c35
               have c35b1 : (t435 != (rd t418 1)) = true := bne_iff_ne.mpr c35
               exact absurd (Option.some.inj H) (by rw [hlaw_.out]; decide)
             ·rw [if_neg c33] at H
              exact absurd H (by simp)
            ·rw [if_neg c32] at H
             have c32b0 : ((rdOf ByteArray.empty t411 x7_1).toList == (rdOf ByteArray.empty t411 (ji8)).toList) = false := beq_eq_false_iff_ne.mpr c32
             have c32b1 : ((rdOf ByteArray.empty t411 x7_1).toList != (rdOf ByteArray.empty t411 (ji8)).toList) = true := bne_iff_ne.mpr c32
             replace H := Option.bind_eq_some_iff.mp H
             obtain ⟨t437, A400, H⟩ := H
             replace H : (if t437 = (rd t414 x7_1) then (laws_FnEnvs.l0 k1 l0 t418 (rdOf ByteArray.empty t411 (ji8)) (wrap64 (x7_1 + 1)) t411 t414 t424 t427) else (some false)) = some r := H
             have A40 := Aside0.mk A400
             clear A400
             by_cases c41 : t437 = (rd t414 x7_1)
             ·rw [if_pos c41] at H
              have c41b0 : (t437 == (rd t414 x7_1)) = true := beq_iff_eq.mpr c41
              have c41b1 : (t437 != (rd t414 x7_1)) = false := bne_eq_false_iff_eq.mpr c41
              clear c41
              have H' := Aside0.mk H
              clear H
              have hnb42 := NB417_430.out
              have hnc42 := NB430_417.out
              obtain ⟨hcz43_0, hcz43_1, hfz43_0, hfz43_1⟩ := Bc2_ BK417
              have p431 : 0 ≤ (x7_1 : Int) := of_decide_eq_true As_
              have q431 : x7_1 < (t414.length : Int) := of_decide_eq_true As_
              obtain ⟨ad431, e431, hx431_0⟩ := Kd.at_int (Kd.R_reads' HO_418001.out).2.2 x7_1 p431 q431
              cases e431
              replace p431 := eq_true p431
              replace q431 := eq_true q431
              have p432 : 0 ≤ (x7_1 : Int) := of_decide_eq_true As_
              have q432 : x7_1 < (t411.length : Int) := of_decide_eq_true As_
              obtain ⟨ad432, e432, hx432_0⟩ := Kd.at_string (Kd.R_reads' HO_418000.out).2.2 x7_1 p432 q432
              obtain rfl : ad422 = ad432 := (by injection e432)
              replace p432 := eq_true p432
              replace q432 := eq_true q432
              try go_wp2
              replace HO_4 := Aside0.mk (Kd.R_drew HO_4.out); replace HO_418000 := Aside0.mk (Kd.R_drew HO_418000.out); replace HO_418001 := Aside0.mk (Kd.R_drew HO_418001.out); replace HO_431000 := Aside0.mk (Kd.R_drew HO_431000.out); replace HO_431001 := Aside0.mk (Kd.R_drew HO_431001.out); replace BK417 := Aside0.mk (blk_drew BK417.out); replace BK430 := Aside0.mk (blk_drew BK430.out); replace HB := Aside0.mk (below_drew1 HB.out)
              have p436 : 0 ≤ (x7_1 : Int) := of_decide_eq_true As_
              have q436 : x7_1 < (t411.length : Int) := of_decide_eq_true As_
              obtain ⟨ad436, e436, hx436_0⟩ := Kd.at_string (Kd.R_reads' HO_418000.out).2.2 x7_1 p436 q436
              obtain rfl : ad422 = ad436 := (by injection e436)
              replace p436 := eq_true p436
              replace q436 := eq_true q436
              refine start_ (n := 9) (S := fun w' => w'.cell? ⟨gb430, 0, none⟩ = some (.slice Ao25 t424.length co25) ∧ w'.cell? ⟨gb430, 1, none⟩ = some (.slice Ao27 t427.length co27) ∧ w'.cell? ⟨gb417, 0, none⟩ = some (.slice (some ad422) t411.length co15) ∧ w'.cell? ⟨gb417, 1, none⟩ = some (.slice (some ad431) t414.length co17) ∧ w'.cell? (ad422.add (x7_1).toNat) = some (.string (rdOf ByteArray.empty t411 x7_1))) (ds := []) #[false, false, false, false, false, false, false, false, false] (by kernel_rfl) rfl rfl ⟨(blk_cell BK430.out 0).trans rfl, (blk_cell BK430.out 1).trans rfl, (blk_cell BK417.out 0).trans rfl, (blk_cell BK417.out 1).trans rfl, hx436_0⟩ (fun hHeld => ?_); refine with_tabW laws_FnEnvs.tab13 laws_FnEnvs.bits13 (fun HT_ HW_ => ?_)
              generalize wr.drew = w44 at HO_4 HO_418000 HO_418001 HO_431000 HO_431001 BK417 BK430 HB hx436_0 hHeld ⊢
              refine pure_ (i := 1) (N := some 62) (v := ?_) (a' := ?_) #[false, true, false, false, false, false, false, false, false] rfl rfl (any_of HT_.out (by kernel_rfl)) (fun _ _ _ h => h) (Or.inl ⟨by rfl, ?_⟩) ?_ ?_
              rotate_left
              ·intro w'
               go_simp
               with_reducible rfl
              rotate_left
              ·simp only [Act.put, List.setIfInBounds_toArray, List.set_cons_zero, List.set_cons_succ, i64_w, i32_w]
               rfl
              refine pure_ (i := 3) (N := some 64) (v := ?_) (a' := ?_) #[false, true, false, true, false, false, false, false, false] rfl rfl (any_of HT_.out (by kernel_rfl)) (fun _ _ _ h => h) (Or.inl ⟨by rfl, ?_⟩) ?_ ?_
              rotate_left
              ·intro w'
               go_simp
               with_reducible rfl
              rotate_left
              ·simp only [Act.put, List.setIfInBounds_toArray, List.set_cons_zero, List.set_cons_succ, i64_w, i32_w]
               rfl
              refine pure_ (i := 7) (N := some 68) (v := ?_) (a' := ?_) #[false, true, false, true, false, false, false, true, false] rfl rfl (any_of HT_.out (by kernel_rfl)) (fun _ _ _ h => h) (Or.inl ⟨by rfl, ?_⟩) ?_ ?_
              rotate_left
              ·intro w'
               go_simp
               with_reducible rfl
              rotate_left
              ·simp only [Act.put, List.setIfInBounds_toArray, List.set_cons_zero, List.set_cons_succ, i64_w, i32_w]
               rfl
              refine take_ (i := 0) (N := some 61) (v := ?_) (a' := ?_) #[true, true, false, true, false, false, false, true, false] rfl rfl (take_ofW HT_.out HW_.out (by kernel_rfl)) (fun _ _ _ h => h) (Or.inl ⟨by rfl, ?_⟩) hHeld ?_ ?_
              rotate_left
              ·rintro w' ⟨s0, s1, s2, s3, s4⟩
               go_simp
               with_reducible rfl
              rotate_left
              ·simp only [Act.put, List.setIfInBounds_toArray, List.set_cons_zero, List.set_cons_succ, i64_w, i32_w]
               rfl
              refine take_ (i := 2) (N := some 63) (v := ?_) (a' := ?_) #[true, true, true, true, false, false, false, true, false] rfl rfl (take_ofW HT_.out HW_.out (by kernel_rfl)) (fun _ _ _ h => h) (Or.inl ⟨by rfl, ?_⟩) hHeld ?_ ?_
              rotate_left
              ·rintro w' ⟨s0, s1, s2, s3, s4⟩
               go_simp
               with_reducible rfl
              rotate_left
              ·simp only [Act.put, List.setIfInBounds_toArray, List.set_cons_zero, List.set_cons_succ, i64_w, i32_w]
               rfl
              refine pure_ (i := 4) (N := some 65) (v := ?_) (a' := ?_) #[true, true, true, true, true, false, false, true, false] rfl rfl (any_of HT_.out (by kernel_rfl)) (fun _ _ _ h => h) (Or.inl ⟨by rfl, ?_⟩) ?_ ?_
              rotate_left
              ·intro w'
               go_simp
               with_reducible rfl
              rotate_left
              ·simp only [Act.put, List.setIfInBounds_toArray, List.set_cons_zero, List.set_cons_succ, i64_w, i32_w]
               rfl
              refine take_ (i := 5) (N := some 66) (v := ?_) (a' := ?_) #[true, true, true, true, true, true, false, true, false] rfl rfl (take_ofW HT_.out HW_.out (by kernel_rfl)) (fun _ _ _ h => h) (Or.inl ⟨by rfl, ?_⟩) hHeld ?_ ?_
              rotate_left
              ·rintro w' ⟨s0, s1, s2, s3, s4⟩
               go_simp
               with_reducible rfl
              rotate_left
              ·simp only [Act.put, List.setIfInBounds_toArray, List.set_cons_zero, List.set_cons_succ, i64_w, i32_w]
               rfl
              refine one_ (i := 6) (N := some 67) #[true, true, true, true, true, true, true, true, false] rfl rfl (one_of HT_.out (by kernel_rfl)) (by decide) (fun K hK => ?_)
              refine goes_ Try.func39 (by kernel_rfl) rfl #[.agg #[.slice Ao25 t424.length co25, .slice Ao27 t427.length co27], .string (rdOf ByteArray.empty t411 x7_1)] (by rfl) rfl rfl Mp_ ?_
              with_reducible refine (impl_GetIn.calls k1 _ _ t424 _ _ t427 (rdOf ByteArray.empty t411 x7_1) t437 _ ?side1 ?side2 ?side3 ?side4 A40.out).mono ?_
              (case side1 => exact Cq_ (Kd.R_reads' HO_431000.out).2.2)
              (case side2 => exact (Kd.R_reads' HO_431000.out).2.1)
              (case side3 => exact Cq_ (Kd.R_reads' HO_431001.out).2.2)
              (case side4 => exact (Kd.R_reads' HO_431001.out).2.1)
              rintro e w45 ⟨rfl, hb⟩
              have HS4_ := (hb.cell (World.block_lt_of_cell? _ _ (hHeld.2.2.2.2))).trans (hHeld.2.2.2.2)
              refine ⟨_, rfl, ?_⟩
              replace HO_4 := Rb_ HO_4 hb; replace HO_418000 := Rb_ HO_418000 hb; replace HO_418001 := Rb_ HO_418001 hb; replace HO_431000 := Rb_ HO_431000 hb; replace HO_431001 := Rb_ HO_431001 hb; replace BK417 := Bb_ BK417 hb; replace BK430 := Bb_ BK430 hb; replace HB := Hs_ HB hb
              (try clear hb)
              (try clear hb2)
              (try clear hk)
              (try clear hi)
              refine hK.out _ _ ⟨(blk_cell BK430.out 0).trans rfl, (blk_cell BK430.out 1).trans rfl, (blk_cell BK417.out 0).trans rfl, (blk_cell BK417.out 1).trans rfl, HS4_⟩ (fun hHeld => ?_)
              clear hK K
              refine norm_ (a' := ?_) ?_ ?_
              rotate_left
              ·show Act.put _ (some 67) _ = _
               simp only [Act.put, List.setIfInBounds_toArray, List.set_cons_zero, List.set_cons_succ, i64_w, i32_w]
               rfl
              refine pure_ (i := 8) (N := some 69) (v := ?_) (a' := ?_) #[true, true, true, true, true, true, true, true, true] rfl rfl (any_of HT_.out (by kernel_rfl)) (fun _ _ _ h => h) (Or.inl ⟨by rfl, ?_⟩) ?_ ?_
              rotate_left
              ·intro w'
               go_simp
               with_reducible rfl
              rotate_left
              ·simp only [Act.put, List.setIfInBounds_toArray, List.set_cons_zero, List.set_cons_succ, i64_w, i32_w]
               rfl
              refine done_ (done_of HT_.out (by kernel_rfl)) ?_
              try go_wp2
              go_roundg k1
              case measure => have := HK1.out; omega
              case rel => exact ⟨(wrap64 (x7_1 + 1)), Rr_, H', ⟨by have := HK1.out; omega⟩, ⟨Rq_ HO_4⟩, ⟨Rq_ HO_418000⟩, ⟨Rq_ HO_418001⟩, ⟨Rq_ HO_431000⟩, ⟨Rq_ HO_431001⟩, ⟨Bq_ BK417⟩, ⟨Bq_ BK430⟩, ⟨Hf_ HB⟩⟩
             ·rw [if_neg c41] at H
              have c41b0 : (t437 == (rd t414 x7_1)) = false := beq_eq_false_iff_ne.mpr c41
              have c41b1 : (t437 != (rd t414 x7_1)) = true := bne_iff_ne.mpr c41
              exact absurd (Option.some.inj H) (by rw [hlaw_.out]; decide)
           ·rw [if_neg c31] at H
            exact absurd H (by simp)
          ·rw [if_neg c30] at H
           exact absurd H (by simp)
         ·rw [if_neg c29] at H
          have c29b0 : decide (x7_1 < (t411.length : Int)) = false := decide_eq_false c29
          clear c29
          replace H := Option.bind_eq_some_iff.mp H
          obtain ⟨⟨t438, t441, t444, t447⟩, A460, H⟩ := H
          replace H : ((impl_Together.f k1 t438 t441 t444 t447).bind fun bt452 => ((spec_DrawEnvOk.f k1 l0).bind fun bt459 => ((spec_DrawPutIn.f k1 l0).bind fun bt466 => ((impl_EnvOk.f k1 t411 t414).bind fun t475 => (if t475 = true then ((impl_EnvOk.f k1 t424 t427).bind fun t476 => (if t476 = true then ((spec_Together.f k1 t438 t441 t444 t447).bind fun bt477 => ((laws_sameEnv.f k1 bt452.1 bt452.2 bt477.1 bt477.2).bind fun t483 => (if t483 = true then ((impl_EnvOk.f k1 bt459.1 bt459.2).bind fun t484 => ((spec_EnvOk.f k1 bt459.1 bt459.2).bind fun t485 => (if (t484 == t485) = true then ((impl_PutIn.f k1 bt466.1 bt466.2.1 bt466.2.2.1 bt466.2.2.2).bind fun bt486 => ((spec_PutIn.f k1 bt466.1 bt466.2.1 bt466.2.2.1 bt466.2.2.2).bind fun bt492 => ((laws_sameEnv.f k1 bt486.1 bt486.2 bt492.1 bt492.2).bind fun t498 => (if t498 = true then ((impl_GetIn.f k1 t411 t414 (⟨#[110, 111, 110, 101]⟩ : ByteArray)).bind fun t499 => (some (t499 == 0))) else (some false))))) else (some false)))) else (some false)))) else (some false))) else (some false)))))) = some r := H
          have A46 := Aside0.mk A460
          clear A460
          replace H := Option.bind_eq_some_iff.mp H
          obtain ⟨⟨t452, t455⟩, A470, H⟩ := H
          replace H : ((spec_DrawEnvOk.f k1 l0).bind fun bt459 => ((spec_DrawPutIn.f k1 l0).bind fun bt466 => ((impl_EnvOk.f k1 t411 t414).bind fun t475 => (if t475 = true then ((impl_EnvOk.f k1 t424 t427).bind fun t476 => (if t476 = true then ((spec_Together.f k1 t438 t441 t444 t447).bind fun bt477 => ((laws_sameEnv.f k1 t452 t455 bt477.1 bt477.2).bind fun t483 => (if t483 = true then ((impl_EnvOk.f k1 bt459.1 bt459.2).bind fun t484 => ((spec_EnvOk.f k1 bt459.1 bt459.2).bind fun t485 => (if (t484 == t485) = true then ((impl_PutIn.f k1 bt466.1 bt466.2.1 bt466.2.2.1 bt466.2.2.2).bind fun bt486 => ((spec_PutIn.f k1 bt466.1 bt466.2.1 bt466.2.2.1 bt466.2.2.2).bind fun bt492 => ((laws_sameEnv.f k1 bt486.1 bt486.2 bt492.1 bt492.2).bind fun t498 => (if t498 = true then ((impl_GetIn.f k1 t411 t414 (⟨#[110, 111, 110, 101]⟩ : ByteArray)).bind fun t499 => (some (t499 == 0))) else (some false))))) else (some false)))) else (some false)))) else (some false))) else (some false))))) = some r := H
          have A47 := Aside0.mk A470
          clear A470
          replace H := Option.bind_eq_some_iff.mp H
          obtain ⟨⟨t459, t462⟩, A480, H⟩ := H
          replace H : ((spec_DrawPutIn.f k1 l0).bind fun bt466 => ((impl_EnvOk.f k1 t411 t414).bind fun t475 => (if t475 = true then ((impl_EnvOk.f k1 t424 t427).bind fun t476 => (if t476 = true then ((spec_Together.f k1 t438 t441 t444 t447).bind fun bt477 => ((laws_sameEnv.f k1 t452 t455 bt477.1 bt477.2).bind fun t483 => (if t483 = true then ((impl_EnvOk.f k1 t459 t462).bind fun t484 => ((spec_EnvOk.f k1 t459 t462).bind fun t485 => (if (t484 == t485) = true then ((impl_PutIn.f k1 bt466.1 bt466.2.1 bt466.2.2.1 bt466.2.2.2).bind fun bt486 => ((spec_PutIn.f k1 bt466.1 bt466.2.1 bt466.2.2.1 bt466.2.2.2).bind fun bt492 => ((laws_sameEnv.f k1 bt486.1 bt486.2 bt492.1 bt492.2).bind fun t498 => (if t498 = true then ((impl_GetIn.f k1 t411 t414 (⟨#[110, 111, 110, 101]⟩ : ByteArray)).bind fun t499 => (some (t499 == 0))) else (some false))))) else (some false)))) else (some false)))) else (some false))) else (some false)))) = some r := H
          have A48 := Aside0.mk A480
          clear A480
          replace H := Option.bind_eq_some_iff.mp H
          obtain ⟨⟨t466, t469, t472, t473⟩, A490, H⟩ := H
          replace H : ((impl_EnvOk.f k1 t411 t414).bind fun t475 => (if t475 = true then ((impl_EnvOk.f k1 t424 t427).bind fun t476 => (if t476 = true then ((spec_Together.f k1 t438 t441 t444 t447).bind fun bt477 => ((laws_sameEnv.f k1 t452 t455 bt477.1 bt477.2).bind fun t483 => (if t483 = true then ((impl_EnvOk.f k1 t459 t462).bind fun t484 => ((spec_EnvOk.f k1 t459 t462).bind fun t485 => (if (t484 == t485) = true then ((impl_PutIn.f k1 t466 t469 t472 t473).bind fun bt486 => ((spec_PutIn.f k1 t466 t469 t472 t473).bind fun bt492 => ((laws_sameEnv.f k1 bt486.1 bt486.2 bt492.1 bt492.2).bind fun t498 => (if t498 = true then ((impl_GetIn.f k1 t411 t414 (⟨#[110, 111, 110, 101]⟩ : ByteArray)).bind fun t499 => (some (t499 == 0))) else (some false))))) else (some false)))) else (some false)))) else (some false))) else (some false))) = some r := H
          have A49 := Aside0.mk A490
          clear A490
          replace H := Option.bind_eq_some_iff.mp H
          obtain ⟨t475, A500, H⟩ := H
          replace H : (if t475 = true then ((impl_EnvOk.f k1 t424 t427).bind fun t476 => (if t476 = true then ((spec_Together.f k1 t438 t441 t444 t447).bind fun bt477 => ((laws_sameEnv.f k1 t452 t455 bt477.1 bt477.2).bind fun t483 => (if t483 = true then ((impl_EnvOk.f k1 t459 t462).bind fun t484 => ((spec_EnvOk.f k1 t459 t462).bind fun t485 => (if (t484 == t485) = true then ((impl_PutIn.f k1 t466 t469 t472 t473).bind fun bt486 => ((spec_PutIn.f k1 t466 t469 t472 t473).bind fun bt492 => ((laws_sameEnv.f k1 bt486.1 bt486.2 bt492.1 bt492.2).bind fun t498 => (if t498 = true then ((impl_GetIn.f k1 t411 t414 (⟨#[110, 111, 110, 101]⟩ : ByteArray)).bind fun t499 => (some (t499 == 0))) else (some false))))) else (some false)))) else (some false)))) else (some false))) else (some false)) = some r := H
          have A50 := Aside0.mk A500
          clear A500
          by_cases c51 : t475 = true
          ·subst c51
           have H1 : ((impl_EnvOk.f k1 t424 t427).bind fun t476 => (if t476 = true then ((spec_Together.f k1 t438 t441 t444 t447).bind fun bt477 => ((laws_sameEnv.f k1 t452 t455 bt477.1 bt477.2).bind fun t483 => (if t483 = true then ((impl_EnvOk.f k1 t459 t462).bind fun t484 => ((spec_EnvOk.f k1 t459 t462).bind fun t485 => (if (t484 == t485) = true then ((impl_PutIn.f k1 t466 t469 t472 t473).bind fun bt486 => ((spec_PutIn.f k1 t466 t469 t472 t473).bind fun bt492 => ((laws_sameEnv.f k1 bt486.1 bt486.2 bt492.1 bt492.2).bind fun t498 => (if t498 = true then ((impl_GetIn.f k1 t411 t414 (⟨#[110, 111, 110, 101]⟩ : ByteArray)).bind fun t499 => (some (t499 == 0))) else (some false))))) else (some false)))) else (some false)))) else (some false))) = some r := by rw [if_pos rfl] at H; exact H
           clear H
           have H := H1
           clear H1
           replace H := Option.bind_eq_some_iff.mp H
           obtain ⟨t476, A520, H⟩ := H
           replace H : (if t476 = true then ((spec_Together.f k1 t438 t441 t444 t447).bind fun bt477 => ((laws_sameEnv.f k1 t452 t455 bt477.1 bt477.2).bind fun t483 => (if t483 = true then ((impl_EnvOk.f k1 t459 t462).bind fun t484 => ((spec_EnvOk.f k1 t459 t462).bind fun t485 => (if (t484 == t485) = true then ((impl_PutIn.f k1 t466 t469 t472 t473).bind fun bt486 => ((spec_PutIn.f k1 t466 t469 t472 t473).bind fun bt492 => ((laws_sameEnv.f k1 bt486.1 bt486.2 bt492.1 bt492.2).bind fun t498 => (if t498 = true then ((impl_GetIn.f k1 t411 t414 (⟨#[110, 111, 110, 101]⟩ : ByteArray)).bind fun t499 => (some (t499 == 0))) else (some false))))) else (some false)))) else (some false)))) else (some false)) = some r := H
           have A52 := Aside0.mk A520
           clear A520
           by_cases c53 : t476 = true
           ·subst c53
            have H1 : ((spec_Together.f k1 t438 t441 t444 t447).bind fun bt477 => ((laws_sameEnv.f k1 t452 t455 bt477.1 bt477.2).bind fun t483 => (if t483 = true then ((impl_EnvOk.f k1 t459 t462).bind fun t484 => ((spec_EnvOk.f k1 t459 t462).bind fun t485 => (if (t484 == t485) = true then ((impl_PutIn.f k1 t466 t469 t472 t473).bind fun bt486 => ((spec_PutIn.f k1 t466 t469 t472 t473).bind fun bt492 => ((laws_sameEnv.f k1 bt486.1 bt486.2 bt492.1 bt492.2).bind fun t498 => (if t498 = true then ((impl_GetIn.f k1 t411 t414 (⟨#[110, 111, 110, 101]⟩ : ByteArray)).bind fun t499 => (some (t499 == 0))) else (some false))))) else (some false)))) else (some false)))) = some r := by rw [if_pos rfl] at H; exact H
            clear H
            have H := H1
            clear H1
            replace H := Option.bind_eq_some_iff.mp H
            obtain ⟨⟨t477, t480⟩, A540, H⟩ := H
            replace H : ((laws_sameEnv.f k1 t452 t455 t477 t480).bind fun t483 => (if t483 = true then ((impl_EnvOk.f k1 t459 t462).bind fun t484 => ((spec_EnvOk.f k1 t459 t462).bind fun t485 => (if (t484 == t485) = true then ((impl_PutIn.f k1 t466 t469 t472 t473).bind fun bt486 => ((spec_PutIn.f k1 t466 t469 t472 t473).bind fun bt492 => ((laws_sameEnv.f k1 bt486.1 bt486.2 bt492.1 bt492.2).bind fun t498 => (if t498 = true then ((impl_GetIn.f k1 t411 t414 (⟨#[110, 111, 110, 101]⟩ : ByteArray)).bind fun t499 => (some (t499 == 0))) else (some false))))) else (some false)))) else (some false))) = some r := H
            have A54 := Aside0.mk A540
            clear A540
            replace H := Option.bind_eq_some_iff.mp H
            obtain ⟨t483, A550, H⟩ := H
            replace H : (if t483 = true then ((impl_EnvOk.f k1 t459 t462).bind fun t484 => ((spec_EnvOk.f k1 t459 t462).bind fun t485 => (if (t484 == t485) = true then ((impl_PutIn.f k1 t466 t469 t472 t473).bind fun bt486 => ((spec_PutIn.f k1 t466 t469 t472 t473).bind fun bt492 => ((laws_sameEnv.f k1 bt486.1 bt486.2 bt492.1 bt492.2).bind fun t498 => (if t498 = true then ((impl_GetIn.f k1 t411 t414 (⟨#[110, 111, 110, 101]⟩ : ByteArray)).bind fun t499 => (some (t499 == 0))) else (some false))))) else (some false)))) else (some false)) = some r := H
            have A55 := Aside0.mk A550
            clear A550
            by_cases c56 : t483 = true
            ·subst c56
             have H1 : ((impl_EnvOk.f k1 t459 t462).bind fun t484 => ((spec_EnvOk.f k1 t459 t462).bind fun t485 => (if (t484 == t485) = true then ((impl_PutIn.f k1 t466 t469 t472 t473).bind fun bt486 => ((spec_PutIn.f k1 t466 t469 t472 t473).bind fun bt492 => ((laws_sameEnv.f k1 bt486.1 bt486.2 bt492.1 bt492.2).bind fun t498 => (if t498 = true then ((impl_GetIn.f k1 t411 t414 (⟨#[110, 111, 110, 101]⟩ : ByteArray)).bind fun t499 => (some (t499 == 0))) else (some false))))) else (some false)))) = some r := by rw [if_pos rfl] at H; exact H
             clear H
             have H := H1
             clear H1
             replace H := Option.bind_eq_some_iff.mp H
             obtain ⟨t484, A570, H⟩ := H
             replace H : ((spec_EnvOk.f k1 t459 t462).bind fun t485 => (if (t484 == t485) = true then ((impl_PutIn.f k1 t466 t469 t472 t473).bind fun bt486 => ((spec_PutIn.f k1 t466 t469 t472 t473).bind fun bt492 => ((laws_sameEnv.f k1 bt486.1 bt486.2 bt492.1 bt492.2).bind fun t498 => (if t498 = true then ((impl_GetIn.f k1 t411 t414 (⟨#[110, 111, 110, 101]⟩ : ByteArray)).bind fun t499 => (some (t499 == 0))) else (some false))))) else (some false))) = some r := H
             have A57 := Aside0.mk A570
             clear A570
             replace H := Option.bind_eq_some_iff.mp H
             obtain ⟨t485, A580, H⟩ := H
             replace H : (if (t484 == t485) = true then ((impl_PutIn.f k1 t466 t469 t472 t473).bind fun bt486 => ((spec_PutIn.f k1 t466 t469 t472 t473).bind fun bt492 => ((laws_sameEnv.f k1 bt486.1 bt486.2 bt492.1 bt492.2).bind fun t498 => (if t498 = true then ((impl_GetIn.f k1 t411 t414 (⟨#[110, 111, 110, 101]⟩ : ByteArray)).bind fun t499 => (some (t499 == 0))) else (some false))))) else (some false)) = some r := H
             have A58 := Aside0.mk A580
             clear A580
             by_cases c59 : (t484 == t485) = true
             ·rw [if_pos c59] at H
              have c59b0 : (t484 == t485) = true := c59
              (try (have c59b1 : decide (t484 = t485) = true := by simpa using c59))
              (try (have c59b2 : (t484 == t485) = true := by simpa using c59))
              clear c59
              replace H := Option.bind_eq_some_iff.mp H
              obtain ⟨⟨t486, t489⟩, A600, H⟩ := H
              replace H : ((spec_PutIn.f k1 t466 t469 t472 t473).bind fun bt492 => ((laws_sameEnv.f k1 t486 t489 bt492.1 bt492.2).bind fun t498 => (if t498 = true then ((impl_GetIn.f k1 t411 t414 (⟨#[110, 111, 110, 101]⟩ : ByteArray)).bind fun t499 => (some (t499 == 0))) else (some false)))) = some r := H
              have A60 := Aside0.mk A600
              clear A600
              replace H := Option.bind_eq_some_iff.mp H
              obtain ⟨⟨t492, t495⟩, A610, H⟩ := H
              replace H : ((laws_sameEnv.f k1 t486 t489 t492 t495).bind fun t498 => (if t498 = true then ((impl_GetIn.f k1 t411 t414 (⟨#[110, 111, 110, 101]⟩ : ByteArray)).bind fun t499 => (some (t499 == 0))) else (some false))) = some r := H
              have A61 := Aside0.mk A610
              clear A610
              replace H := Option.bind_eq_some_iff.mp H
              obtain ⟨t498, A620, H⟩ := H
              replace H : (if t498 = true then ((impl_GetIn.f k1 t411 t414 (⟨#[110, 111, 110, 101]⟩ : ByteArray)).bind fun t499 => (some (t499 == 0))) else (some false)) = some r := H
              have A62 := Aside0.mk A620
              clear A620
              by_cases c63 : t498 = true
              ·subst c63
               have H1 : ((impl_GetIn.f k1 t411 t414 (⟨#[110, 111, 110, 101]⟩ : ByteArray)).bind fun t499 => (some (t499 == 0))) = some r := by rw [if_pos rfl] at H; exact H
               clear H
               have H := H1
               clear H1
               replace H := Option.bind_eq_some_iff.mp H
               obtain ⟨t499, A640, H⟩ := H
               replace H : (some (t499 == 0)) = some r := H
               have A64 := Aside0.mk A640
               clear A640
               obtain rfl := Option.some.inj H
               have hnb65 := NB417_430.out
               have hnc65 := NB430_417.out
               obtain ⟨hcz66_0, hcz66_1, hfz66_0, hfz66_1⟩ := Bc2_ BK417
               try go_wp2_with (first | ((with_reducible refine gate_callee (f := 40) rfl ?_); refine goesL_ (some 72) rfl rfl Try.func40 (by kernel_rfl) rfl #[.slice A0 l0.length c0] rfl Mp_ ?_; (with_reducible refine (spec_DrawTogether.calls k1 _ _ l0 t438 t441 t444 t447 _ ?side1 ?side2 A46.out).mono ?_); (case side1 => exact Sc_ HR0 HB); (case side2 => exact HC0.out); rintro e w67 ⟨v439, v442, v445, v448, rfl, ho0, ho1, ho2, ho3, hb⟩; refine ⟨_, rfl, ?_⟩; have HO440 := Aside0.mk (Kd.R_lower (Kd.R_new' (Kd.R_new' ho0 (Kd.R_lt (Rq_ HO_418000))) (Kd.R_lt (Rq_ HO_431000))) (below_size (Hf_ HB))); have HO443 := Aside0.mk (Kd.R_lower (Kd.R_new' (Kd.R_new' (Kd.R_new' ho1 (Kd.R_lt (Rq_ HO_4))) (Kd.R_lt (Rq_ HO_418001))) (Kd.R_lt (Rq_ HO_431001))) (below_size (Hf_ HB))); have HO446 := Aside0.mk (Kd.R_lower (Kd.R_new' (Kd.R_new' ho2 (Kd.R_lt (Rq_ HO_418000))) (Kd.R_lt (Rq_ HO_431000))) (below_size (Hf_ HB))); have HO449 := Aside0.mk (Kd.R_lower (Kd.R_new' (Kd.R_new' (Kd.R_new' ho3 (Kd.R_lt (Rq_ HO_4))) (Kd.R_lt (Rq_ HO_418001))) (Kd.R_lt (Rq_ HO_431001))) (below_size (Hf_ HB))); replace HO_4 := Aside0.mk (Kd.R_mono (Kd.R_told (Kd.R_told (Kd.R_old (Rq_ HO_4) hb) (Kd.R_base ho1)) (Kd.R_base ho3)) (fun _ h_ => h_.1)); replace HO_418000 := Aside0.mk (Kd.R_mono (Kd.R_told (Kd.R_told (Kd.R_old (Rq_ HO_418000) hb) (Kd.R_base ho0)) (Kd.R_base ho2)) (fun _ h_ => h_.1)); replace HO_418001 := Aside0.mk (Kd.R_mono (Kd.R_told (Kd.R_told (Kd.R_old (Rq_ HO_418001) hb) (Kd.R_base ho1)) (Kd.R_base ho3)) (fun _ h_ => h_.1)); replace HO_431000 := Aside0.mk (Kd.R_mono (Kd.R_told (Kd.R_told (Kd.R_old (Rq_ HO_431000) hb) (Kd.R_base ho0)) (Kd.R_base ho2)) (fun _ h_ => h_.1)); replace HO_431001 := Aside0.mk (Kd.R_mono (Kd.R_told (Kd.R_told (Kd.R_old (Rq_ HO_431001) hb) (Kd.R_base ho1)) (Kd.R_base ho3)) (fun _ h_ => h_.1)); replace BK417 := Bb_ BK417 hb; replace BK430 := Bb_ BK430 hb; replace HB := Hs_ HB hb; (try clear hb); (try clear hb2); (try clear hk); (try clear hi); (try clear ho0); (try clear ho1); (try clear ho2); (try clear ho3)) | ((with_reducible refine gate_dst (N := 9) rfl ?_); refine box_event ?hg (N := 9) ?hd (cs := #[.slice none 0 0, .slice none 0 0]) (t := 28) ?hr ?_; (case hd => rfl); (case hg => rfl); (case hr => first | (go_simp; done) | (go_simp; rfl)); intro gb450 hg w68 hbox hb; have BK450 := Aside0.mk (hbox); have GW450 := Hg_ HB hg; have GE450 := GW450; have NB417_450 := Bl_ BK417 hg; have NB450_417 := Bm_ NB417_450; have NB430_450 := Bl_ BK430 hg; have NB450_430 := Bm_ NB430_450; replace HO_4 := Rb_ HO_4 hb; replace HO_418000 := Rb_ HO_418000 hb; replace HO_418001 := Rb_ HO_418001 hb; replace HO_431000 := Rb_ HO_431000 hb; replace HO_431001 := Rb_ HO_431001 hb; replace HO440 := Rb_ HO440 hb; replace HO443 := Rb_ HO443 hb; replace HO446 := Rb_ HO446 hb; replace HO449 := Rb_ HO449 hb; replace BK417 := Bb_ BK417 hb; replace BK430 := Bb_ BK430 hb; replace HB := Hs_ HB hb; clear hb hbox hg) | ((with_reducible refine gate_dst (N := 10) rfl ?_); refine box_event ?hg (N := 10) ?hd (cs := #[.slice none 0 0, .slice none 0 0]) (t := 28) ?hr ?_; (case hd => rfl); (case hg => rfl); (case hr => first | (go_simp; done) | (go_simp; rfl)); intro gb451 hg w69 hbox hb; have BK451 := Aside0.mk (hbox); have GW451 := Hg_ HB hg; have GE451 := GW451; have NB417_451 := Bl_ BK417 hg; have NB451_417 := Bm_ NB417_451; have NB430_451 := Bl_ BK430 hg; have NB451_430 := Bm_ NB430_451; have NB450_451 := Bl_ BK450 hg; have NB451_450 := Bm_ NB450_451; replace HO_4 := Rb_ HO_4 hb; replace HO_418000 := Rb_ HO_418000 hb; replace HO_418001 := Rb_ HO_418001 hb; replace HO_431000 := Rb_ HO_431000 hb; replace HO_431001 := Rb_ HO_431001 hb; replace HO440 := Rb_ HO440 hb; replace HO443 := Rb_ HO443 hb; replace HO446 := Rb_ HO446 hb; replace HO449 := Rb_ HO449 hb; replace BK417 := Bb_ BK417 hb; replace BK430 := Bb_ BK430 hb; replace BK450 := Bb_ BK450 hb; replace HB := Hs_ HB hb; clear hb hbox hg; obtain ⟨Ao70, co70, eo70⟩ := Kd.R_slice HO440.out; subst eo70; have hnb71 := NB450_417.out; have hnc71 := NB417_450.out; have hnb72 := NB450_430.out; have hnc72 := NB430_450.out; have hnb73 := NB450_451.out; have hnc73 := NB451_450.out; obtain ⟨hcz74_0, hcz74_1, hfz74_0, hfz74_1⟩ := Bc2_ BK450; obtain ⟨Ao75, co75, eo75⟩ := Kd.R_slice HO443.out; subst eo75; obtain ⟨Ao76, co76, eo76⟩ := Kd.R_slice HO446.out; subst eo76; have hnb77 := NB451_417.out; have hnc77 := NB417_451.out; have hnb78 := NB451_430.out; have hnc78 := NB430_451.out; obtain ⟨hcz79_0, hcz79_1, hfz79_0, hfz79_1⟩ := Bc2_ BK451; obtain ⟨Ao80, co80, eo80⟩ := Kd.R_slice HO449.out; subst eo80) | ((with_reducible refine gate_callee (f := 23) rfl ?_); refine goesL_ (some 77) rfl rfl Try.func23 (by kernel_rfl) rfl #[.agg #[.slice Ao70 t438.length co70, .slice Ao75 t441.length co75], .agg #[.slice Ao76 t444.length co76, .slice Ao80 t447.length co80]] rfl Mp_ ?_; (with_reducible refine (impl_Together.calls k1 _ _ t438 _ _ t441 _ _ t444 _ _ t447 t452 t455 _ ?side1 ?side2 ?side3 ?side4 ?side5 ?side6 ?side7 ?side8 A47.out).mono ?_); (case side1 => refine (Kd.R_reads' (e := 9) (base := w.heap.size) (ok := fun k_ => ((some k_ ≠ (.slice Ao76 t444.length co76 : Value).ownBlock ∧ some k_ ≠ (.slice (some ad422) t411.length co15 : Value).ownBlock) ∧ some k_ ≠ (.slice Ao25 t424.length co25 : Value).ownBlock)) (n := t438.length) (c := co70) ?_).2.2; exact (by (with_reducible repeat (first | apply Kd.R_alloc | apply Kd.R_drewN | apply Kd.R_drew)); exact (Kd.R_mono (Kd.R_mono (Kd.R_far (p := ⟨gb451, 1, none⟩) (Kd.R_far (p := ⟨gb451, 0, none⟩) (Kd.R_far (p := ⟨gb450, 1, none⟩) (Kd.R_far (p := ⟨gb450, 0, none⟩) (Kd.R_types (Kd.R_types HO440.out BK450.out (by decide)) BK451.out (by decide)) (fun _ hk => hk.1.2) (.slice Ao70 t438.length co70)) (fun _ hk => hk.1.2) (.slice Ao75 t441.length co75)) (fun _ hk => hk.2) (.slice Ao76 t444.length co76)) (fun _ hk => hk.2) (.slice Ao80 t447.length co80)) (fun _ h_ => h_.1)) (fun _ h_ => h_.1)))); (case side2 => exact (Kd.R_reads' HO440.out).2.1); (case side3 => refine (Kd.R_reads' (e := 3) (base := w.heap.size) (ok := fun k_ => (((some k_ ≠ (.slice Ao80 t447.length co80 : Value).ownBlock ∧ some k_ ≠ (.slice (some ad421) t418.length co20 : Value).ownBlock) ∧ some k_ ≠ (.slice Ao17 t414.length co17 : Value).ownBlock) ∧ some k_ ≠ (.slice Ao27 t427.length co27 : Value).ownBlock)) (n := t441.length) (c := co75) ?_).2.2; exact (by (with_reducible repeat (first | apply Kd.R_alloc | apply Kd.R_drewN | apply Kd.R_drew)); exact (Kd.R_mono (Kd.R_mono (Kd.R_far (p := ⟨gb451, 1, none⟩) (Kd.R_far (p := ⟨gb451, 0, none⟩) (Kd.R_far (p := ⟨gb450, 1, none⟩) (Kd.R_far (p := ⟨gb450, 0, none⟩) (Kd.R_types (Kd.R_types HO443.out BK450.out (by decide)) BK451.out (by decide)) (fun _ hk => hk.1.2) (.slice Ao70 t438.length co70)) (fun _ hk => hk.1.2) (.slice Ao75 t441.length co75)) (fun _ hk => hk.2) (.slice Ao76 t444.length co76)) (fun _ hk => hk.2) (.slice Ao80 t447.length co80)) (fun _ h_ => h_.1)) (fun _ h_ => h_.1)))); (case side4 => exact (Kd.R_reads' HO443.out).2.1); (case side5 => refine (Kd.R_reads' (e := 9) (base := w.heap.size) (ok := fun k_ => ((some k_ ≠ (.slice Ao70 t438.length co70 : Value).ownBlock ∧ some k_ ≠ (.slice (some ad422) t411.length co15 : Value).ownBlock) ∧ some k_ ≠ (.slice Ao25 t424.length co25 : Value).ownBlock)) (n := t444.length) (c := co76) ?_).2.2; exact (by (with_reducible repeat (first | apply Kd.R_alloc | apply Kd.R_drewN | apply Kd.R_drew)); exact (Kd.R_mono (Kd.R_mono (Kd.R_far (p := ⟨gb451, 1, none⟩) (Kd.R_far (p := ⟨gb451, 0, none⟩) (Kd.R_far (p := ⟨gb450, 1, none⟩) (Kd.R_far (p := ⟨gb450, 0, none⟩) (Kd.R_types (Kd.R_types HO446.out BK450.out (by decide)) BK451.out (by decide)) (fun _ hk => hk.1.2) (.slice Ao70 t438.length co70)) (fun _ hk => hk.1.2) (.slice Ao75 t441.length co75)) (fun _ hk => hk.2) (.slice Ao76 t444.length co76)) (fun _ hk => hk.2) (.slice Ao80 t447.length co80)) (fun _ h_ => h_.1)) (fun _ h_ => h_.1)))); (case side6 => exact (Kd.R_reads' HO446.out).2.1); (case side7 => refine (Kd.R_reads' (e := 3) (base := w.heap.size) (ok := fun k_ => (((some k_ ≠ (.slice Ao75 t441.length co75 : Value).ownBlock ∧ some k_ ≠ (.slice (some ad421) t418.length co20 : Value).ownBlock) ∧ some k_ ≠ (.slice Ao17 t414.length co17 : Value).ownBlock) ∧ some k_ ≠ (.slice Ao27 t427.length co27 : Value).ownBlock)) (n := t447.length) (c := co80) ?_).2.2; exact (by (with_reducible repeat (first | apply Kd.R_alloc | apply Kd.R_drewN | apply Kd.R_drew)); exact (Kd.R_mono (Kd.R_mono (Kd.R_far (p := ⟨gb451, 1, none⟩) (Kd.R_far (p := ⟨gb451, 0, none⟩) (Kd.R_far (p := ⟨gb450, 1, none⟩) (Kd.R_far (p := ⟨gb450, 0, none⟩) (Kd.R_types (Kd.R_types HO449.out BK450.out (by decide)) BK451.out (by decide)) (fun _ hk => hk.1.2) (.slice Ao70 t438.length co70)) (fun _ hk => hk.1.2) (.slice Ao75 t441.length co75)) (fun _ hk => hk.2) (.slice Ao76 t444.length co76)) (fun _ hk => hk.2) (.slice Ao80 t447.length co80)) (fun _ h_ => h_.1)) (fun _ h_ => h_.1)))); (case side8 => exact (Kd.R_reads' HO449.out).2.1); rintro e w81 ⟨v453, v456, rfl, ho0, ho1, hb⟩; refine ⟨_, rfl, ?_⟩; have HO454 := Aside0.mk (Kd.R_lower (Kd.R_new' (Kd.R_new' (Kd.R_new' (Kd.R_new' ho0 (Kd.R_lt (by (with_reducible repeat (first | apply Kd.R_alloc | apply Kd.R_drewN | apply Kd.R_drew)); exact (Kd.R_mono (Kd.R_mono (Kd.R_far (p := ⟨gb451, 1, none⟩) (Kd.R_far (p := ⟨gb451, 0, none⟩) (Kd.R_far (p := ⟨gb450, 1, none⟩) (Kd.R_far (p := ⟨gb450, 0, none⟩) (Kd.R_types (Kd.R_types HO_418000.out BK450.out (by decide)) BK451.out (by decide)) (fun _ hk => hk.1.2) (.slice Ao70 t438.length co70)) (fun _ hk => hk.1.2) (.slice Ao75 t441.length co75)) (fun _ hk => hk.2) (.slice Ao76 t444.length co76)) (fun _ hk => hk.2) (.slice Ao80 t447.length co80)) (fun _ h_ => h_.1)) (fun _ h_ => h_.1))))) (Kd.R_lt (by (with_reducible repeat (first | apply Kd.R_alloc | apply Kd.R_drewN | apply Kd.R_drew)); exact (Kd.R_mono (Kd.R_mono (Kd.R_far (p := ⟨gb451, 1, none⟩) (Kd.R_far (p := ⟨gb451, 0, none⟩) (Kd.R_far (p := ⟨gb450, 1, none⟩) (Kd.R_far (p := ⟨gb450, 0, none⟩) (Kd.R_types (Kd.R_types HO_431000.out BK450.out (by decide)) BK451.out (by decide)) (fun _ hk => hk.1.2) (.slice Ao70 t438.length co70)) (fun _ hk => hk.1.2) (.slice Ao75 t441.length co75)) (fun _ hk => hk.2) (.slice Ao76 t444.length co76)) (fun _ hk => hk.2) (.slice Ao80 t447.length co80)) (fun _ h_ => h_.1)) (fun _ h_ => h_.1))))) (Kd.R_lt (by (with_reducible repeat (first | apply Kd.R_alloc | apply Kd.R_drewN | apply Kd.R_drew)); exact (Kd.R_mono (Kd.R_mono (Kd.R_far (p := ⟨gb451, 1, none⟩) (Kd.R_far (p := ⟨gb451, 0, none⟩) (Kd.R_far (p := ⟨gb450, 1, none⟩) (Kd.R_far (p := ⟨gb450, 0, none⟩) (Kd.R_types (Kd.R_types HO440.out BK450.out (by decide)) BK451.out (by decide)) (fun _ hk => hk.1.2) (.slice Ao70 t438.length co70)) (fun _ hk => hk.1.2) (.slice Ao75 t441.length co75)) (fun _ hk => hk.2) (.slice Ao76 t444.length co76)) (fun _ hk => hk.2) (.slice Ao80 t447.length co80)) (fun _ h_ => h_.1)) (fun _ h_ => h_.1))))) (Kd.R_lt (by (with_reducible repeat (first | apply Kd.R_alloc | apply Kd.R_drewN | apply Kd.R_drew)); exact (Kd.R_mono (Kd.R_mono (Kd.R_far (p := ⟨gb451, 1, none⟩) (Kd.R_far (p := ⟨gb451, 0, none⟩) (Kd.R_far (p := ⟨gb450, 1, none⟩) (Kd.R_far (p := ⟨gb450, 0, none⟩) (Kd.R_types (Kd.R_types HO446.out BK450.out (by decide)) BK451.out (by decide)) (fun _ hk => hk.1.2) (.slice Ao70 t438.length co70)) (fun _ hk => hk.1.2) (.slice Ao75 t441.length co75)) (fun _ hk => hk.2) (.slice Ao76 t444.length co76)) (fun _ hk => hk.2) (.slice Ao80 t447.length co80)) (fun _ h_ => h_.1)) (fun _ h_ => h_.1))))) (below_size (Hf_ HB))); have HO457 := Aside0.mk (Kd.R_lower (Kd.R_new' (Kd.R_new' (Kd.R_new' (Kd.R_new' (Kd.R_new' ho1 (Kd.R_lt (by (with_reducible repeat (first | apply Kd.R_alloc | apply Kd.R_drewN | apply Kd.R_drew)); exact (Kd.R_mono (Kd.R_mono (Kd.R_far (p := ⟨gb451, 1, none⟩) (Kd.R_far (p := ⟨gb451, 0, none⟩) (Kd.R_far (p := ⟨gb450, 1, none⟩) (Kd.R_far (p := ⟨gb450, 0, none⟩) (Kd.R_types (Kd.R_types HO_4.out BK450.out (by decide)) BK451.out (by decide)) (fun _ hk => hk.1.2) (.slice Ao70 t438.length co70)) (fun _ hk => hk.1.2) (.slice Ao75 t441.length co75)) (fun _ hk => hk.2) (.slice Ao76 t444.length co76)) (fun _ hk => hk.2) (.slice Ao80 t447.length co80)) (fun _ h_ => h_.1)) (fun _ h_ => h_.1))))) (Kd.R_lt (by (with_reducible repeat (first | apply Kd.R_alloc | apply Kd.R_drewN | apply Kd.R_drew)); exact (Kd.R_mono (Kd.R_mono (Kd.R_far (p := ⟨gb451, 1, none⟩) (Kd.R_far (p := ⟨gb451, 0, none⟩) (Kd.R_far (p := ⟨gb450, 1, none⟩) (Kd.R_far (p := ⟨gb450, 0, none⟩) (Kd.R_types (Kd.R_types HO_418001.out BK450.out (by decide)) BK451.out (by decide)) (fun _ hk => hk.1.2) (.slice Ao70 t438.length co70)) (fun _ hk => hk.1.2) (.slice Ao75 t441.length co75)) (fun _ hk => hk.2) (.slice Ao76 t444.length co76)) (fun _ hk => hk.2) (.slice Ao80 t447.length co80)) (fun _ h_ => h_.1)) (fun _ h_ => h_.1))))) (Kd.R_lt (by (with_reducible repeat (first | apply Kd.R_alloc | apply Kd.R_drewN | apply Kd.R_drew)); exact (Kd.R_mono (Kd.R_mono (Kd.R_far (p := ⟨gb451, 1, none⟩) (Kd.R_far (p := ⟨gb451, 0, none⟩) (Kd.R_far (p := ⟨gb450, 1, none⟩) (Kd.R_far (p := ⟨gb450, 0, none⟩) (Kd.R_types (Kd.R_types HO_431001.out BK450.out (by decide)) BK451.out (by decide)) (fun _ hk => hk.1.2) (.slice Ao70 t438.length co70)) (fun _ hk => hk.1.2) (.slice Ao75 t441.length co75)) (fun _ hk => hk.2) (.slice Ao76 t444.length co76)) (fun _ hk => hk.2) (.slice Ao80 t447.length co80)) (fun _ h_ => h_.1)) (fun _ h_ => h_.1))))) (Kd.R_lt (by (with_reducible repeat (first | apply Kd.R_alloc | apply Kd.R_drewN | apply Kd.R_drew)); exact (Kd.R_mono (Kd.R_mono (Kd.R_far (p := ⟨gb451, 1, none⟩) (Kd.R_far (p := ⟨gb451, 0, none⟩) (Kd.R_far (p := ⟨gb450, 1, none⟩) (Kd.R_far (p := ⟨gb450, 0, none⟩) (Kd.R_types (Kd.R_types HO443.out BK450.out (by decide)) BK451.out (by decide)) (fun _ hk => hk.1.2) (.slice Ao70 t438.length co70)) (fun _ hk => hk.1.2) (.slice Ao75 t441.length co75)) (fun _ hk => hk.2) (.slice Ao76 t444.length co76)) (fun _ hk => hk.2) (.slice Ao80 t447.length co80)) (fun _ h_ => h_.1)) (fun _ h_ => h_.1))))) (Kd.R_lt (by (with_reducible repeat (first | apply Kd.R_alloc | apply Kd.R_drewN | apply Kd.R_drew)); exact (Kd.R_mono (Kd.R_mono (Kd.R_far (p := ⟨gb451, 1, none⟩) (Kd.R_far (p := ⟨gb451, 0, none⟩) (Kd.R_far (p := ⟨gb450, 1, none⟩) (Kd.R_far (p := ⟨gb450, 0, none⟩) (Kd.R_types (Kd.R_types HO449.out BK450.out (by decide)) BK451.out (by decide)) (fun _ hk => hk.1.2) (.slice Ao70 t438.length co70)) (fun _ hk => hk.1.2) (.slice Ao75 t441.length co75)) (fun _ hk => hk.2) (.slice Ao76 t444.length co76)) (fun _ hk => hk.2) (.slice Ao80 t447.length co80)) (fun _ h_ => h_.1)) (fun _ h_ => h_.1))))) (below_size (Hf_ HB))); replace HO_4 := Aside0.mk (Kd.R_elder' (by (with_reducible repeat (first | apply Kd.R_alloc | apply Kd.R_drewN | apply Kd.R_drew)); exact (Kd.R_mono (Kd.R_mono (Kd.R_far (p := ⟨gb451, 1, none⟩) (Kd.R_far (p := ⟨gb451, 0, none⟩) (Kd.R_far (p := ⟨gb450, 1, none⟩) (Kd.R_far (p := ⟨gb450, 0, none⟩) (Kd.R_types (Kd.R_types HO_4.out BK450.out (by decide)) BK451.out (by decide)) (fun _ hk => hk.1.2) (.slice Ao70 t438.length co70)) (fun _ hk => hk.1.2) (.slice Ao75 t441.length co75)) (fun _ hk => hk.2) (.slice Ao76 t444.length co76)) (fun _ hk => hk.2) (.slice Ao80 t447.length co80)) (fun _ h_ => h_.1)) (fun _ h_ => h_.1))) (Kd.R_base ho1) hb); replace HO_418000 := Aside0.mk (Kd.R_elder' (by (with_reducible repeat (first | apply Kd.R_alloc | apply Kd.R_drewN | apply Kd.R_drew)); exact (Kd.R_mono (Kd.R_mono (Kd.R_far (p := ⟨gb451, 1, none⟩) (Kd.R_far (p := ⟨gb451, 0, none⟩) (Kd.R_far (p := ⟨gb450, 1, none⟩) (Kd.R_far (p := ⟨gb450, 0, none⟩) (Kd.R_types (Kd.R_types HO_418000.out BK450.out (by decide)) BK451.out (by decide)) (fun _ hk => hk.1.2) (.slice Ao70 t438.length co70)) (fun _ hk => hk.1.2) (.slice Ao75 t441.length co75)) (fun _ hk => hk.2) (.slice Ao76 t444.length co76)) (fun _ hk => hk.2) (.slice Ao80 t447.length co80)) (fun _ h_ => h_.1)) (fun _ h_ => h_.1))) (Kd.R_base ho0) hb); replace HO_418001 := Aside0.mk (Kd.R_elder' (by (with_reducible repeat (first | apply Kd.R_alloc | apply Kd.R_drewN | apply Kd.R_drew)); exact (Kd.R_mono (Kd.R_mono (Kd.R_far (p := ⟨gb451, 1, none⟩) (Kd.R_far (p := ⟨gb451, 0, none⟩) (Kd.R_far (p := ⟨gb450, 1, none⟩) (Kd.R_far (p := ⟨gb450, 0, none⟩) (Kd.R_types (Kd.R_types HO_418001.out BK450.out (by decide)) BK451.out (by decide)) (fun _ hk => hk.1.2) (.slice Ao70 t438.length co70)) (fun _ hk => hk.1.2) (.slice Ao75 t441.length co75)) (fun _ hk => hk.2) (.slice Ao76 t444.length co76)) (fun _ hk => hk.2) (.slice Ao80 t447.length co80)) (fun _ h_ => h_.1)) (fun _ h_ => h_.1))) (Kd.R_base ho1) hb); replace HO_431000 := Aside0.mk (Kd.R_elder' (by (with_reducible repeat (first | apply Kd.R_alloc | apply Kd.R_drewN | apply Kd.R_drew)); exact (Kd.R_mono (Kd.R_mono (Kd.R_far (p := ⟨gb451, 1, none⟩) (Kd.R_far (p := ⟨gb451, 0, none⟩) (Kd.R_far (p := ⟨gb450, 1, none⟩) (Kd.R_far (p := ⟨gb450, 0, none⟩) (Kd.R_types (Kd.R_types HO_431000.out BK450.out (by decide)) BK451.out (by decide)) (fun _ hk => hk.1.2) (.slice Ao70 t438.length co70)) (fun _ hk => hk.1.2) (.slice Ao75 t441.length co75)) (fun _ hk => hk.2) (.slice Ao76 t444.length co76)) (fun _ hk => hk.2) (.slice Ao80 t447.length co80)) (fun _ h_ => h_.1)) (fun _ h_ => h_.1))) (Kd.R_base ho0) hb); replace HO_431001 := Aside0.mk (Kd.R_elder' (by (with_reducible repeat (first | apply Kd.R_alloc | apply Kd.R_drewN | apply Kd.R_drew)); exact (Kd.R_mono (Kd.R_mono (Kd.R_far (p := ⟨gb451, 1, none⟩) (Kd.R_far (p := ⟨gb451, 0, none⟩) (Kd.R_far (p := ⟨gb450, 1, none⟩) (Kd.R_far (p := ⟨gb450, 0, none⟩) (Kd.R_types (Kd.R_types HO_431001.out BK450.out (by decide)) BK451.out (by decide)) (fun _ hk => hk.1.2) (.slice Ao70 t438.length co70)) (fun _ hk => hk.1.2) (.slice Ao75 t441.length co75)) (fun _ hk => hk.2) (.slice Ao76 t444.length co76)) (fun _ hk => hk.2) (.slice Ao80 t447.length co80)) (fun _ h_ => h_.1)) (fun _ h_ => h_.1))) (Kd.R_base ho1) hb); replace HO440 := Aside0.mk (Kd.R_elder' (by (with_reducible repeat (first | apply Kd.R_alloc | apply Kd.R_drewN | apply Kd.R_drew)); exact (Kd.R_mono (Kd.R_mono (Kd.R_far (p := ⟨gb451, 1, none⟩) (Kd.R_far (p := ⟨gb451, 0, none⟩) (Kd.R_far (p := ⟨gb450, 1, none⟩) (Kd.R_far (p := ⟨gb450, 0, none⟩) (Kd.R_types (Kd.R_types HO440.out BK450.out (by decide)) BK451.out (by decide)) (fun _ hk => hk.1.2) (.slice Ao70 t438.length co70)) (fun _ hk => hk.1.2) (.slice Ao75 t441.length co75)) (fun _ hk => hk.2) (.slice Ao76 t444.length co76)) (fun _ hk => hk.2) (.slice Ao80 t447.length co80)) (fun _ h_ => h_.1)) (fun _ h_ => h_.1))) (Kd.R_base ho0) hb); replace HO443 := Aside0.mk (Kd.R_elder' (by (with_reducible repeat (first | apply Kd.R_alloc | apply Kd.R_drewN | apply Kd.R_drew)); exact (Kd.R_mono (Kd.R_mono (Kd.R_far (p := ⟨gb451, 1, none⟩) (Kd.R_far (p := ⟨gb451, 0, none⟩) (Kd.R_far (p := ⟨gb450, 1, none⟩) (Kd.R_far (p := ⟨gb450, 0, none⟩) (Kd.R_types (Kd.R_types HO443.out BK450.out (by decide)) BK451.out (by decide)) (fun _ hk => hk.1.2) (.slice Ao70 t438.length co70)) (fun _ hk => hk.1.2) (.slice Ao75 t441.length co75)) (fun _ hk => hk.2) (.slice Ao76 t444.length co76)) (fun _ hk => hk.2) (.slice Ao80 t447.length co80)) (fun _ h_ => h_.1)) (fun _ h_ => h_.1))) (Kd.R_base ho1) hb); replace HO446 := Aside0.mk (Kd.R_elder' (by (with_reducible repeat (first | apply Kd.R_alloc | apply Kd.R_drewN | apply Kd.R_drew)); exact (Kd.R_mono (Kd.R_mono (Kd.R_far (p := ⟨gb451, 1, none⟩) (Kd.R_far (p := ⟨gb451, 0, none⟩) (Kd.R_far (p := ⟨gb450, 1, none⟩) (Kd.R_far (p := ⟨gb450, 0, none⟩) (Kd.R_types (Kd.R_types HO446.out BK450.out (by decide)) BK451.out (by decide)) (fun _ hk => hk.1.2) (.slice Ao70 t438.length co70)) (fun _ hk => hk.1.2) (.slice Ao75 t441.length co75)) (fun _ hk => hk.2) (.slice Ao76 t444.length co76)) (fun _ hk => hk.2) (.slice Ao80 t447.length co80)) (fun _ h_ => h_.1)) (fun _ h_ => h_.1))) (Kd.R_base ho0) hb); replace HO449 := Aside0.mk (Kd.R_elder' (by (with_reducible repeat (first | apply Kd.R_alloc | apply Kd.R_drewN | apply Kd.R_drew)); exact (Kd.R_mono (Kd.R_mono (Kd.R_far (p := ⟨gb451, 1, none⟩) (Kd.R_far (p := ⟨gb451, 0, none⟩) (Kd.R_far (p := ⟨gb450, 1, none⟩) (Kd.R_far (p := ⟨gb450, 0, none⟩) (Kd.R_types (Kd.R_types HO449.out BK450.out (by decide)) BK451.out (by decide)) (fun _ hk => hk.1.2) (.slice Ao70 t438.length co70)) (fun _ hk => hk.1.2) (.slice Ao75 t441.length co75)) (fun _ hk => hk.2) (.slice Ao76 t444.length co76)) (fun _ hk => hk.2) (.slice Ao80 t447.length co80)) (fun _ h_ => h_.1)) (fun _ h_ => h_.1))) (Kd.R_base ho1) hb); replace BK417 := Aside0.mk (blk_below (g := gb417) (o := .cells #[.slice (some ad422) t411.length co15, .slice Ao17 t414.length co17] 28 (0, 0)) (by (with_reducible repeat (first | refine blk_drewN ?_ _ | refine blk_drew ?_ | refine blk_alloc ?_ _)); refine blk_far ?_ NB417_451.out _; (with_reducible repeat (first | refine blk_drewN ?_ _ | refine blk_drew ?_ | refine blk_alloc ?_ _)); refine blk_far ?_ NB417_451.out _; (with_reducible repeat (first | refine blk_drewN ?_ _ | refine blk_drew ?_ | refine blk_alloc ?_ _)); refine blk_far ?_ NB417_450.out _; (with_reducible repeat (first | refine blk_drewN ?_ _ | refine blk_drew ?_ | refine blk_alloc ?_ _)); refine blk_far ?_ NB417_450.out _; (with_reducible repeat (first | refine blk_drewN ?_ _ | refine blk_drew ?_ | refine blk_alloc ?_ _)); exact BK417.out) hb); replace BK430 := Aside0.mk (blk_below (g := gb430) (o := .cells #[.slice Ao25 t424.length co25, .slice Ao27 t427.length co27] 28 (0, 0)) (by (with_reducible repeat (first | refine blk_drewN ?_ _ | refine blk_drew ?_ | refine blk_alloc ?_ _)); refine blk_far ?_ NB430_451.out _; (with_reducible repeat (first | refine blk_drewN ?_ _ | refine blk_drew ?_ | refine blk_alloc ?_ _)); refine blk_far ?_ NB430_451.out _; (with_reducible repeat (first | refine blk_drewN ?_ _ | refine blk_drew ?_ | refine blk_alloc ?_ _)); refine blk_far ?_ NB430_450.out _; (with_reducible repeat (first | refine blk_drewN ?_ _ | refine blk_drew ?_ | refine blk_alloc ?_ _)); refine blk_far ?_ NB430_450.out _; (with_reducible repeat (first | refine blk_drewN ?_ _ | refine blk_drew ?_ | refine blk_alloc ?_ _)); exact BK430.out) hb); replace BK450 := Aside0.mk (blk_below (g := gb450) (o := .cells #[.slice Ao70 t438.length co70, .slice Ao75 t441.length co75] 28 (0, 0)) (by (with_reducible repeat (first | refine blk_drewN ?_ _ | refine blk_drew ?_ | refine blk_alloc ?_ _)); refine blk_far ?_ NB450_451.out _; (with_reducible repeat (first | refine blk_drewN ?_ _ | refine blk_drew ?_ | refine blk_alloc ?_ _)); refine blk_far ?_ NB450_451.out _; (with_reducible repeat (first | refine blk_drewN ?_ _ | refine blk_drew ?_ | refine blk_alloc ?_ _)); refine blk_put (cs := #[.slice Ao70 t438.length co70, .slice none 0 0]) ?_ 1 _ rfl; (with_reducible repeat (first | refine blk_drewN ?_ _ | refine blk_drew ?_ | refine blk_alloc ?_ _)); refine blk_put (cs := #[.slice none 0 0, .slice none 0 0]) ?_ 0 _ rfl; (with_reducible repeat (first | refine blk_drewN ?_ _ | refine blk_drew ?_ | refine blk_alloc ?_ _)); exact BK450.out) hb); replace BK451 := Aside0.mk (blk_below (g := gb451) (o := .cells #[.slice Ao76 t444.length co76, .slice Ao80 t447.length co80] 28 (0, 0)) (by (with_reducible repeat (first | refine blk_drewN ?_ _ | refine blk_drew ?_ | refine blk_alloc ?_ _)); refine blk_put (cs := #[.slice Ao76 t444.length co76, .slice none 0 0]) ?_ 1 _ rfl; (with_reducible repeat (first | refine blk_drewN ?_ _ | refine blk_drew ?_ | refine blk_alloc ?_ _)); refine blk_put (cs := #[.slice none 0 0, .slice none 0 0]) ?_ 0 _ rfl; (with_reducible repeat (first | refine blk_drewN ?_ _ | refine blk_drew ?_ | refine blk_alloc ?_ _)); refine blk_far ?_ NB451_450.out _; (with_reducible repeat (first | refine blk_drewN ?_ _ | refine blk_drew ?_ | refine blk_alloc ?_ _)); refine blk_far ?_ NB451_450.out _; (with_reducible repeat (first | refine blk_drewN ?_ _ | refine blk_drew ?_ | refine blk_alloc ?_ _)); exact BK451.out) hb); replace HB := Hs_ HB hb; (try clear hb); (try clear hb2); (try clear hk); (try clear hi); (try clear ho0); (try clear ho1)) | ((with_reducible refine gate_dst (N := 11) rfl ?_); refine box_event ?hg (N := 11) ?hd (cs := #[.slice none 0 0, .slice none 0 0]) (t := 28) ?hr ?_; (case hd => rfl); (case hg => rfl); (case hr => first | (go_simp; done) | (go_simp; rfl)); intro gb458 hg w82 hbox hb; have BK458 := Aside0.mk (hbox); have GW458 := Hg_ HB hg; have GE458 := GW458; have NB417_458 := Bl_ BK417 hg; have NB458_417 := Bm_ NB417_458; have NB430_458 := Bl_ BK430 hg; have NB458_430 := Bm_ NB430_458; have NB450_458 := Bl_ BK450 hg; have NB458_450 := Bm_ NB450_458; have NB451_458 := Bl_ BK451 hg; have NB458_451 := Bm_ NB451_458; replace HO_4 := Rb_ HO_4 hb; replace HO_418000 := Rb_ HO_418000 hb; replace HO_418001 := Rb_ HO_418001 hb; replace HO_431000 := Rb_ HO_431000 hb; replace HO_431001 := Rb_ HO_431001 hb; replace HO440 := Rb_ HO440 hb; replace HO443 := Rb_ HO443 hb; replace HO446 := Rb_ HO446 hb; replace HO449 := Rb_ HO449 hb; replace HO454 := Rb_ HO454 hb; replace HO457 := Rb_ HO457 hb; replace BK417 := Bb_ BK417 hb; replace BK430 := Bb_ BK430 hb; replace BK450 := Bb_ BK450 hb; replace BK451 := Bb_ BK451 hb; replace HB := Hs_ HB hb; clear hb hbox hg; obtain ⟨Ao83, co83, eo83⟩ := Kd.R_slice HO454.out; subst eo83; have hnb84 := NB458_417.out; have hnc84 := NB417_458.out; have hnb85 := NB458_430.out; have hnc85 := NB430_458.out; have hnb86 := NB458_450.out; have hnc86 := NB450_458.out; have hnb87 := NB458_451.out; have hnc87 := NB451_458.out; obtain ⟨hcz88_0, hcz88_1, hfz88_0, hfz88_1⟩ := Bc2_ BK458; obtain ⟨Ao89, co89, eo89⟩ := Kd.R_slice HO457.out; subst eo89) | ((with_reducible refine gate_callee (f := 41) rfl ?_); refine goesL_ (some 79) rfl rfl Try.func41 (by kernel_rfl) rfl #[.slice A0 l0.length c0] rfl Mp_ ?_; (with_reducible refine (spec_DrawEnvOk.calls k1 _ _ l0 t459 t462 _ ?side1 ?side2 A48.out).mono ?_); (case side1 => exact Kd.C_below HR0.out (Hf_ HB)); (case side2 => exact HC0.out); rintro e w90 ⟨v460, v463, rfl, ho0, ho1, hb⟩; refine ⟨_, rfl, ?_⟩; have HO461 := Aside0.mk (Kd.R_lower (Kd.R_new' (Kd.R_new' (Kd.R_new' (Kd.R_new' (Kd.R_new' ho0 (Kd.R_lt (by (with_reducible repeat (first | apply Kd.R_alloc | apply Kd.R_drewN | apply Kd.R_drew)); exact (Kd.R_mono (Kd.R_far (p := ⟨gb458, 1, none⟩) (Kd.R_far (p := ⟨gb458, 0, none⟩) (Kd.R_types HO_418000.out BK458.out (by decide)) (fun _ hk => hk.2) (.slice Ao83 t452.length co83)) (fun _ hk => hk.2) (.slice Ao89 t455.length co89)) (fun _ h_ => h_.1))))) (Kd.R_lt (by (with_reducible repeat (first | apply Kd.R_alloc | apply Kd.R_drewN | apply Kd.R_drew)); exact (Kd.R_mono (Kd.R_far (p := ⟨gb458, 1, none⟩) (Kd.R_far (p := ⟨gb458, 0, none⟩) (Kd.R_types HO_431000.out BK458.out (by decide)) (fun _ hk => hk.2) (.slice Ao83 t452.length co83)) (fun _ hk => hk.2) (.slice Ao89 t455.length co89)) (fun _ h_ => h_.1))))) (Kd.R_lt (by (with_reducible repeat (first | apply Kd.R_alloc | apply Kd.R_drewN | apply Kd.R_drew)); exact (Kd.R_mono (Kd.R_far (p := ⟨gb458, 1, none⟩) (Kd.R_far (p := ⟨gb458, 0, none⟩) (Kd.R_types HO440.out BK458.out (by decide)) (fun _ hk => hk.2) (.slice Ao83 t452.length co83)) (fun _ hk => hk.2) (.slice Ao89 t455.length co89)) (fun _ h_ => h_.1))))) (Kd.R_lt (by (with_reducible repeat (first | apply Kd.R_alloc | apply Kd.R_drewN | apply Kd.R_drew)); exact (Kd.R_mono (Kd.R_far (p := ⟨gb458, 1, none⟩) (Kd.R_far (p := ⟨gb458, 0, none⟩) (Kd.R_types HO446.out BK458.out (by decide)) (fun _ hk => hk.2) (.slice Ao83 t452.length co83)) (fun _ hk => hk.2) (.slice Ao89 t455.length co89)) (fun _ h_ => h_.1))))) (Kd.R_lt (by (with_reducible repeat (first | apply Kd.R_alloc | apply Kd.R_drewN | apply Kd.R_drew)); exact (Kd.R_mono (Kd.R_far (p := ⟨gb458, 1, none⟩) (Kd.R_far (p := ⟨gb458, 0, none⟩) (Kd.R_types HO454.out BK458.out (by decide)) (fun _ hk => hk.2) (.slice Ao83 t452.length co83)) (fun _ hk => hk.2) (.slice Ao89 t455.length co89)) (fun _ h_ => h_.1))))) (below_size (Hf_ HB))); have HO464 := Aside0.mk (Kd.R_lower (Kd.R_new' (Kd.R_new' (Kd.R_new' (Kd.R_new' (Kd.R_new' (Kd.R_new' ho1 (Kd.R_lt (by (with_reducible repeat (first | apply Kd.R_alloc | apply Kd.R_drewN | apply Kd.R_drew)); exact (Kd.R_mono (Kd.R_far (p := ⟨gb458, 1, none⟩) (Kd.R_far (p := ⟨gb458, 0, none⟩) (Kd.R_types HO_4.out BK458.out (by decide)) (fun _ hk => hk.2) (.slice Ao83 t452.length co83)) (fun _ hk => hk.2) (.slice Ao89 t455.length co89)) (fun _ h_ => h_.1))))) (Kd.R_lt (by (with_reducible repeat (first | apply Kd.R_alloc | apply Kd.R_drewN | apply Kd.R_drew)); exact (Kd.R_mono (Kd.R_far (p := ⟨gb458, 1, none⟩) (Kd.R_far (p := ⟨gb458, 0, none⟩) (Kd.R_types HO_418001.out BK458.out (by decide)) (fun _ hk => hk.2) (.slice Ao83 t452.length co83)) (fun _ hk => hk.2) (.slice Ao89 t455.length co89)) (fun _ h_ => h_.1))))) (Kd.R_lt (by (with_reducible repeat (first | apply Kd.R_alloc | apply Kd.R_drewN | apply Kd.R_drew)); exact (Kd.R_mono (Kd.R_far (p := ⟨gb458, 1, none⟩) (Kd.R_far (p := ⟨gb458, 0, none⟩) (Kd.R_types HO_431001.out BK458.out (by decide)) (fun _ hk => hk.2) (.slice Ao83 t452.length co83)) (fun _ hk => hk.2) (.slice Ao89 t455.length co89)) (fun _ h_ => h_.1))))) (Kd.R_lt (by (with_reducible repeat (first | apply Kd.R_alloc | apply Kd.R_drewN | apply Kd.R_drew)); exact (Kd.R_mono (Kd.R_far (p := ⟨gb458, 1, none⟩) (Kd.R_far (p := ⟨gb458, 0, none⟩) (Kd.R_types HO443.out BK458.out (by decide)) (fun _ hk => hk.2) (.slice Ao83 t452.length co83)) (fun _ hk => hk.2) (.slice Ao89 t455.length co89)) (fun _ h_ => h_.1))))) (Kd.R_lt (by (with_reducible repeat (first | apply Kd.R_alloc | apply Kd.R_drewN | apply Kd.R_drew)); exact (Kd.R_mono (Kd.R_far (p := ⟨gb458, 1, none⟩) (Kd.R_far (p := ⟨gb458, 0, none⟩) (Kd.R_types HO449.out BK458.out (by decide)) (fun _ hk => hk.2) (.slice Ao83 t452.length co83)) (fun _ hk => hk.2) (.slice Ao89 t455.length co89)) (fun _ h_ => h_.1))))) (Kd.R_lt (by (with_reducible repeat (first | apply Kd.R_alloc | apply Kd.R_drewN | apply Kd.R_drew)); exact (Kd.R_mono (Kd.R_far (p := ⟨gb458, 1, none⟩) (Kd.R_far (p := ⟨gb458, 0, none⟩) (Kd.R_types HO457.out BK458.out (by decide)) (fun _ hk => hk.2) (.slice Ao83 t452.length co83)) (fun _ hk => hk.2) (.slice Ao89 t455.length co89)) (fun _ h_ => h_.1))))) (below_size (Hf_ HB))); replace HO_4 := Aside0.mk (Kd.R_elder' (by (with_reducible repeat (first | apply Kd.R_alloc | apply Kd.R_drewN | apply Kd.R_drew)); exact (Kd.R_mono (Kd.R_far (p := ⟨gb458, 1, none⟩) (Kd.R_far (p := ⟨gb458, 0, none⟩) (Kd.R_types HO_4.out BK458.out (by decide)) (fun _ hk => hk.2) (.slice Ao83 t452.length co83)) (fun _ hk => hk.2) (.slice Ao89 t455.length co89)) (fun _ h_ => h_.1))) (Kd.R_base ho1) hb); replace HO_418000 := Aside0.mk (Kd.R_elder' (by (with_reducible repeat (first | apply Kd.R_alloc | apply Kd.R_drewN | apply Kd.R_drew)); exact (Kd.R_mono (Kd.R_far (p := ⟨gb458, 1, none⟩) (Kd.R_far (p := ⟨gb458, 0, none⟩) (Kd.R_types HO_418000.out BK458.out (by decide)) (fun _ hk => hk.2) (.slice Ao83 t452.length co83)) (fun _ hk => hk.2) (.slice Ao89 t455.length co89)) (fun _ h_ => h_.1))) (Kd.R_base ho0) hb); replace HO_418001 := Aside0.mk (Kd.R_elder' (by (with_reducible repeat (first | apply Kd.R_alloc | apply Kd.R_drewN | apply Kd.R_drew)); exact (Kd.R_mono (Kd.R_far (p := ⟨gb458, 1, none⟩) (Kd.R_far (p := ⟨gb458, 0, none⟩) (Kd.R_types HO_418001.out BK458.out (by decide)) (fun _ hk => hk.2) (.slice Ao83 t452.length co83)) (fun _ hk => hk.2) (.slice Ao89 t455.length co89)) (fun _ h_ => h_.1))) (Kd.R_base ho1) hb); replace HO_431000 := Aside0.mk (Kd.R_elder' (by (with_reducible repeat (first | apply Kd.R_alloc | apply Kd.R_drewN | apply Kd.R_drew)); exact (Kd.R_mono (Kd.R_far (p := ⟨gb458, 1, none⟩) (Kd.R_far (p := ⟨gb458, 0, none⟩) (Kd.R_types HO_431000.out BK458.out (by decide)) (fun _ hk => hk.2) (.slice Ao83 t452.length co83)) (fun _ hk => hk.2) (.slice Ao89 t455.length co89)) (fun _ h_ => h_.1))) (Kd.R_base ho0) hb); replace HO_431001 := Aside0.mk (Kd.R_elder' (by (with_reducible repeat (first | apply Kd.R_alloc | apply Kd.R_drewN | apply Kd.R_drew)); exact (Kd.R_mono (Kd.R_far (p := ⟨gb458, 1, none⟩) (Kd.R_far (p := ⟨gb458, 0, none⟩) (Kd.R_types HO_431001.out BK458.out (by decide)) (fun _ hk => hk.2) (.slice Ao83 t452.length co83)) (fun _ hk => hk.2) (.slice Ao89 t455.length co89)) (fun _ h_ => h_.1))) (Kd.R_base ho1) hb); replace HO440 := Aside0.mk (Kd.R_elder' (by (with_reducible repeat (first | apply Kd.R_alloc | apply Kd.R_drewN | apply Kd.R_drew)); exact (Kd.R_mono (Kd.R_far (p := ⟨gb458, 1, none⟩) (Kd.R_far (p := ⟨gb458, 0, none⟩) (Kd.R_types HO440.out BK458.out (by decide)) (fun _ hk => hk.2) (.slice Ao83 t452.length co83)) (fun _ hk => hk.2) (.slice Ao89 t455.length co89)) (fun _ h_ => h_.1))) (Kd.R_base ho0) hb); replace HO443 := Aside0.mk (Kd.R_elder' (by (with_reducible repeat (first | apply Kd.R_alloc | apply Kd.R_drewN | apply Kd.R_drew)); exact (Kd.R_mono (Kd.R_far (p := ⟨gb458, 1, none⟩) (Kd.R_far (p := ⟨gb458, 0, none⟩) (Kd.R_types HO443.out BK458.out (by decide)) (fun _ hk => hk.2) (.slice Ao83 t452.length co83)) (fun _ hk => hk.2) (.slice Ao89 t455.length co89)) (fun _ h_ => h_.1))) (Kd.R_base ho1) hb); replace HO446 := Aside0.mk (Kd.R_elder' (by (with_reducible repeat (first | apply Kd.R_alloc | apply Kd.R_drewN | apply Kd.R_drew)); exact (Kd.R_mono (Kd.R_far (p := ⟨gb458, 1, none⟩) (Kd.R_far (p := ⟨gb458, 0, none⟩) (Kd.R_types HO446.out BK458.out (by decide)) (fun _ hk => hk.2) (.slice Ao83 t452.length co83)) (fun _ hk => hk.2) (.slice Ao89 t455.length co89)) (fun _ h_ => h_.1))) (Kd.R_base ho0) hb); replace HO449 := Aside0.mk (Kd.R_elder' (by (with_reducible repeat (first | apply Kd.R_alloc | apply Kd.R_drewN | apply Kd.R_drew)); exact (Kd.R_mono (Kd.R_far (p := ⟨gb458, 1, none⟩) (Kd.R_far (p := ⟨gb458, 0, none⟩) (Kd.R_types HO449.out BK458.out (by decide)) (fun _ hk => hk.2) (.slice Ao83 t452.length co83)) (fun _ hk => hk.2) (.slice Ao89 t455.length co89)) (fun _ h_ => h_.1))) (Kd.R_base ho1) hb); replace HO454 := Aside0.mk (Kd.R_elder' (by (with_reducible repeat (first | apply Kd.R_alloc | apply Kd.R_drewN | apply Kd.R_drew)); exact (Kd.R_mono (Kd.R_far (p := ⟨gb458, 1, none⟩) (Kd.R_far (p := ⟨gb458, 0, none⟩) (Kd.R_types HO454.out BK458.out (by decide)) (fun _ hk => hk.2) (.slice Ao83 t452.length co83)) (fun _ hk => hk.2) (.slice Ao89 t455.length co89)) (fun _ h_ => h_.1))) (Kd.R_base ho0) hb); replace HO457 := Aside0.mk (Kd.R_elder' (by (with_reducible repeat (first | apply Kd.R_alloc | apply Kd.R_drewN | apply Kd.R_drew)); exact (Kd.R_mono (Kd.R_far (p := ⟨gb458, 1, none⟩) (Kd.R_far (p := ⟨gb458, 0, none⟩) (Kd.R_types HO457.out BK458.out (by decide)) (fun _ hk => hk.2) (.slice Ao83 t452.length co83)) (fun _ hk => hk.2) (.slice Ao89 t455.length co89)) (fun _ h_ => h_.1))) (Kd.R_base ho1) hb); replace BK417 := Aside0.mk (blk_below (g := gb417) (o := .cells #[.slice (some ad422) t411.length co15, .slice Ao17 t414.length co17] 28 (0, 0)) (by (with_reducible repeat (first | refine blk_drewN ?_ _ | refine blk_drew ?_ | refine blk_alloc ?_ _)); refine blk_far ?_ NB417_458.out _; (with_reducible repeat (first | refine blk_drewN ?_ _ | refine blk_drew ?_ | refine blk_alloc ?_ _)); refine blk_far ?_ NB417_458.out _; (with_reducible repeat (first | refine blk_drewN ?_ _ | refine blk_drew ?_ | refine blk_alloc ?_ _)); exact BK417.out) hb); replace BK430 := Aside0.mk (blk_below (g := gb430) (o := .cells #[.slice Ao25 t424.length co25, .slice Ao27 t427.length co27] 28 (0, 0)) (by (with_reducible repeat (first | refine blk_drewN ?_ _ | refine blk_drew ?_ | refine blk_alloc ?_ _)); refine blk_far ?_ NB430_458.out _; (with_reducible repeat (first | refine blk_drewN ?_ _ | refine blk_drew ?_ | refine blk_alloc ?_ _)); refine blk_far ?_ NB430_458.out _; (with_reducible repeat (first | refine blk_drewN ?_ _ | refine blk_drew ?_ | refine blk_alloc ?_ _)); exact BK430.out) hb); replace BK450 := Aside0.mk (blk_below (g := gb450) (o := .cells #[.slice Ao70 t438.length co70, .slice Ao75 t441.length co75] 28 (0, 0)) (by (with_reducible repeat (first | refine blk_drewN ?_ _ | refine blk_drew ?_ | refine blk_alloc ?_ _)); refine blk_far ?_ NB450_458.out _; (with_reducible repeat (first | refine blk_drewN ?_ _ | refine blk_drew ?_ | refine blk_alloc ?_ _)); refine blk_far ?_ NB450_458.out _; (with_reducible repeat (first | refine blk_drewN ?_ _ | refine blk_drew ?_ | refine blk_alloc ?_ _)); exact BK450.out) hb); replace BK451 := Aside0.mk (blk_below (g := gb451) (o := .cells #[.slice Ao76 t444.length co76, .slice Ao80 t447.length co80] 28 (0, 0)) (by (with_reducible repeat (first | refine blk_drewN ?_ _ | refine blk_drew ?_ | refine blk_alloc ?_ _)); refine blk_far ?_ NB451_458.out _; (with_reducible repeat (first | refine blk_drewN ?_ _ | refine blk_drew ?_ | refine blk_alloc ?_ _)); refine blk_far ?_ NB451_458.out _; (with_reducible repeat (first | refine blk_drewN ?_ _ | refine blk_drew ?_ | refine blk_alloc ?_ _)); exact BK451.out) hb); replace BK458 := Aside0.mk (blk_below (g := gb458) (o := .cells #[.slice Ao83 t452.length co83, .slice Ao89 t455.length co89] 28 (0, 0)) (by (with_reducible repeat (first | refine blk_drewN ?_ _ | refine blk_drew ?_ | refine blk_alloc ?_ _)); refine blk_put (cs := #[.slice Ao83 t452.length co83, .slice none 0 0]) ?_ 1 _ rfl; (with_reducible repeat (first | refine blk_drewN ?_ _ | refine blk_drew ?_ | refine blk_alloc ?_ _)); refine blk_put (cs := #[.slice none 0 0, .slice none 0 0]) ?_ 0 _ rfl; (with_reducible repeat (first | refine blk_drewN ?_ _ | refine blk_drew ?_ | refine blk_alloc ?_ _)); exact BK458.out) hb); replace HB := Hs_ HB hb; (try clear hb); (try clear hb2); (try clear hk); (try clear hi); (try clear ho0); (try clear ho1)) | ((with_reducible refine gate_dst (N := 12) rfl ?_); refine box_event ?hg (N := 12) ?hd (cs := #[.slice none 0 0, .slice none 0 0]) (t := 28) ?hr ?_; (case hd => rfl); (case hg => rfl); (case hr => first | (go_simp; done) | (go_simp; rfl)); intro gb465 hg w91 hbox hb; have BK465 := Aside0.mk (hbox); have GW465 := Hg_ HB hg; have GE465 := GW465; have NB417_465 := Bl_ BK417 hg; have NB465_417 := Bm_ NB417_465; have NB430_465 := Bl_ BK430 hg; have NB465_430 := Bm_ NB430_465; have NB450_465 := Bl_ BK450 hg; have NB465_450 := Bm_ NB450_465; have NB451_465 := Bl_ BK451 hg; have NB465_451 := Bm_ NB451_465; have NB458_465 := Bl_ BK458 hg; have NB465_458 := Bm_ NB458_465; replace HO_4 := Rb_ HO_4 hb; replace HO_418000 := Rb_ HO_418000 hb; replace HO_418001 := Rb_ HO_418001 hb; replace HO_431000 := Rb_ HO_431000 hb; replace HO_431001 := Rb_ HO_431001 hb; replace HO440 := Rb_ HO440 hb; replace HO443 := Rb_ HO443 hb; replace HO446 := Rb_ HO446 hb; replace HO449 := Rb_ HO449 hb; replace HO454 := Rb_ HO454 hb; replace HO457 := Rb_ HO457 hb; replace HO461 := Rb_ HO461 hb; replace HO464 := Rb_ HO464 hb; replace BK417 := Bb_ BK417 hb; replace BK430 := Bb_ BK430 hb; replace BK450 := Bb_ BK450 hb; replace BK451 := Bb_ BK451 hb; replace BK458 := Bb_ BK458 hb; replace HB := Hs_ HB hb; clear hb hbox hg; obtain ⟨Ao92, co92, eo92⟩ := Kd.R_slice HO461.out; subst eo92; have hnb93 := NB465_417.out; have hnc93 := NB417_465.out; have hnb94 := NB465_430.out; have hnc94 := NB430_465.out; have hnb95 := NB465_450.out; have hnc95 := NB450_465.out; have hnb96 := NB465_451.out; have hnc96 := NB451_465.out; have hnb97 := NB465_458.out; have hnc97 := NB458_465.out; obtain ⟨hcz98_0, hcz98_1, hfz98_0, hfz98_1⟩ := Bc2_ BK465; obtain ⟨Ao99, co99, eo99⟩ := Kd.R_slice HO464.out; subst eo99) | ((with_reducible refine gate_callee (f := 42) rfl ?_); refine goesL_ (some 82) rfl rfl Try.func42 (by kernel_rfl) rfl #[.slice A0 l0.length c0] rfl Mp_ ?_; (with_reducible refine (spec_DrawPutIn.calls k1 _ _ l0 t466 t469 t472 t473 _ ?side1 ?side2 A49.out).mono ?_); (case side1 => exact Kd.C_below HR0.out (Hf_ HB)); (case side2 => exact HC0.out); rintro e w100 ⟨v467, v470, rfl, ho0, ho1, hb⟩; refine ⟨_, rfl, ?_⟩; have HO468 := Aside0.mk (Kd.R_lower (Kd.R_new' (Kd.R_new' (Kd.R_new' (Kd.R_new' (Kd.R_new' (Kd.R_new' ho0 (Kd.R_lt (by (with_reducible repeat (first | apply Kd.R_alloc | apply Kd.R_drewN | apply Kd.R_drew)); exact (Kd.R_mono (Kd.R_far (p := ⟨gb465, 1, none⟩) (Kd.R_far (p := ⟨gb465, 0, none⟩) (Kd.R_types HO_418000.out BK465.out (by decide)) (fun _ hk => hk.2) (.slice Ao92 t459.length co92)) (fun _ hk => hk.2) (.slice Ao99 t462.length co99)) (fun _ h_ => h_.1))))) (Kd.R_lt (by (with_reducible repeat (first | apply Kd.R_alloc | apply Kd.R_drewN | apply Kd.R_drew)); exact (Kd.R_mono (Kd.R_far (p := ⟨gb465, 1, none⟩) (Kd.R_far (p := ⟨gb465, 0, none⟩) (Kd.R_types HO_431000.out BK465.out (by decide)) (fun _ hk => hk.2) (.slice Ao92 t459.length co92)) (fun _ hk => hk.2) (.slice Ao99 t462.length co99)) (fun _ h_ => h_.1))))) (Kd.R_lt (by (with_reducible repeat (first | apply Kd.R_alloc | apply Kd.R_drewN | apply Kd.R_drew)); exact (Kd.R_mono (Kd.R_far (p := ⟨gb465, 1, none⟩) (Kd.R_far (p := ⟨gb465, 0, none⟩) (Kd.R_types HO440.out BK465.out (by decide)) (fun _ hk => hk.2) (.slice Ao92 t459.length co92)) (fun _ hk => hk.2) (.slice Ao99 t462.length co99)) (fun _ h_ => h_.1))))) (Kd.R_lt (by (with_reducible repeat (first | apply Kd.R_alloc | apply Kd.R_drewN | apply Kd.R_drew)); exact (Kd.R_mono (Kd.R_far (p := ⟨gb465, 1, none⟩) (Kd.R_far (p := ⟨gb465, 0, none⟩) (Kd.R_types HO446.out BK465.out (by decide)) (fun _ hk => hk.2) (.slice Ao92 t459.length co92)) (fun _ hk => hk.2) (.slice Ao99 t462.length co99)) (fun _ h_ => h_.1))))) (Kd.R_lt (by (with_reducible repeat (first | apply Kd.R_alloc | apply Kd.R_drewN | apply Kd.R_drew)); exact (Kd.R_mono (Kd.R_far (p := ⟨gb465, 1, none⟩) (Kd.R_far (p := ⟨gb465, 0, none⟩) (Kd.R_types HO454.out BK465.out (by decide)) (fun _ hk => hk.2) (.slice Ao92 t459.length co92)) (fun _ hk => hk.2) (.slice Ao99 t462.length co99)) (fun _ h_ => h_.1))))) (Kd.R_lt (by (with_reducible repeat (first | apply Kd.R_alloc | apply Kd.R_drewN | apply Kd.R_drew)); exact (Kd.R_mono (Kd.R_far (p := ⟨gb465, 1, none⟩) (Kd.R_far (p := ⟨gb465, 0, none⟩) (Kd.R_types HO461.out BK465.out (by decide)) (fun _ hk => hk.2) (.slice Ao92 t459.length co92)) (fun _ hk => hk.2) (.slice Ao99 t462.length co99)) (fun _ h_ => h_.1))))) (below_size (Hf_ HB))); have HO471 := Aside0.mk (Kd.R_lower (Kd.R_new' (Kd.R_new' (Kd.R_new' (Kd.R_new' (Kd.R_new' (Kd.R_new' (Kd.R_new' ho1 (Kd.R_lt (by (with_reducible repeat (first | apply Kd.R_alloc | apply Kd.R_drewN | apply Kd.R_drew)); exact (Kd.R_mono (Kd.R_far (p := ⟨gb465, 1, none⟩) (Kd.R_far (p := ⟨gb465, 0, none⟩) (Kd.R_types HO_4.out BK465.out (by decide)) (fun _ hk => hk.2) (.slice Ao92 t459.length co92)) (fun _ hk => hk.2) (.slice Ao99 t462.length co99)) (fun _ h_ => h_.1))))) (Kd.R_lt (by (with_reducible repeat (first | apply Kd.R_alloc | apply Kd.R_drewN | apply Kd.R_drew)); exact (Kd.R_mono (Kd.R_far (p := ⟨gb465, 1, none⟩) (Kd.R_far (p := ⟨gb465, 0, none⟩) (Kd.R_types HO_418001.out BK465.out (by decide)) (fun _ hk => hk.2) (.slice Ao92 t459.length co92)) (fun _ hk => hk.2) (.slice Ao99 t462.length co99)) (fun _ h_ => h_.1))))) (Kd.R_lt (by (with_reducible repeat (first | apply Kd.R_alloc | apply Kd.R_drewN | apply Kd.R_drew)); exact (Kd.R_mono (Kd.R_far (p := ⟨gb465, 1, none⟩) (Kd.R_far (p := ⟨gb465, 0, none⟩) (Kd.R_types HO_431001.out BK465.out (by decide)) (fun _ hk => hk.2) (.slice Ao92 t459.length co92)) (fun _ hk => hk.2) (.slice Ao99 t462.length co99)) (fun _ h_ => h_.1))))) (Kd.R_lt (by (with_reducible repeat (first | apply Kd.R_alloc | apply Kd.R_drewN | apply Kd.R_drew)); exact (Kd.R_mono (Kd.R_far (p := ⟨gb465, 1, none⟩) (Kd.R_far (p := ⟨gb465, 0, none⟩) (Kd.R_types HO443.out BK465.out (by decide)) (fun _ hk => hk.2) (.slice Ao92 t459.length co92)) (fun _ hk => hk.2) (.slice Ao99 t462.length co99)) (fun _ h_ => h_.1))))) (Kd.R_lt (by (with_reducible repeat (first | apply Kd.R_alloc | apply Kd.R_drewN | apply Kd.R_drew)); exact (Kd.R_mono (Kd.R_far (p := ⟨gb465, 1, none⟩) (Kd.R_far (p := ⟨gb465, 0, none⟩) (Kd.R_types HO449.out BK465.out (by decide)) (fun _ hk => hk.2) (.slice Ao92 t459.length co92)) (fun _ hk => hk.2) (.slice Ao99 t462.length co99)) (fun _ h_ => h_.1))))) (Kd.R_lt (by (with_reducible repeat (first | apply Kd.R_alloc | apply Kd.R_drewN | apply Kd.R_drew)); exact (Kd.R_mono (Kd.R_far (p := ⟨gb465, 1, none⟩) (Kd.R_far (p := ⟨gb465, 0, none⟩) (Kd.R_types HO457.out BK465.out (by decide)) (fun _ hk => hk.2) (.slice Ao92 t459.length co92)) (fun _ hk => hk.2) (.slice Ao99 t462.length co99)) (fun _ h_ => h_.1))))) (Kd.R_lt (by (with_reducible repeat (first | apply Kd.R_alloc | apply Kd.R_drewN | apply Kd.R_drew)); exact (Kd.R_mono (Kd.R_far (p := ⟨gb465, 1, none⟩) (Kd.R_far (p := ⟨gb465, 0, none⟩) (Kd.R_types HO464.out BK465.out (by decide)) (fun _ hk => hk.2) (.slice Ao92 t459.length co92)) (fun _ hk => hk.2) (.slice Ao99 t462.length co99)) (fun _ h_ => h_.1))))) (below_size (Hf_ HB))); replace HO_4 := Aside0.mk (Kd.R_elder' (by (with_reducible repeat (first | apply Kd.R_alloc | apply Kd.R_drewN | apply Kd.R_drew)); exact (Kd.R_mono (Kd.R_far (p := ⟨gb465, 1, none⟩) (Kd.R_far (p := ⟨gb465, 0, none⟩) (Kd.R_types HO_4.out BK465.out (by decide)) (fun _ hk => hk.2) (.slice Ao92 t459.length co92)) (fun _ hk => hk.2) (.slice Ao99 t462.length co99)) (fun _ h_ => h_.1))) (Kd.R_base ho1) hb); replace HO_418000 := Aside0.mk (Kd.R_elder' (by (with_reducible repeat (first | apply Kd.R_alloc | apply Kd.R_drewN | apply Kd.R_drew)); exact (Kd.R_mono (Kd.R_far (p := ⟨gb465, 1, none⟩) (Kd.R_far (p := ⟨gb465, 0, none⟩) (Kd.R_types HO_418000.out BK465.out (by decide)) (fun _ hk => hk.2) (.slice Ao92 t459.length co92)) (fun _ hk => hk.2) (.slice Ao99 t462.length co99)) (fun _ h_ => h_.1))) (Kd.R_base ho0) hb); replace HO_418001 := Aside0.mk (Kd.R_elder' (by (with_reducible repeat (first | apply Kd.R_alloc | apply Kd.R_drewN | apply Kd.R_drew)); exact (Kd.R_mono (Kd.R_far (p := ⟨gb465, 1, none⟩) (Kd.R_far (p := ⟨gb465, 0, none⟩) (Kd.R_types HO_418001.out BK465.out (by decide)) (fun _ hk => hk.2) (.slice Ao92 t459.length co92)) (fun _ hk => hk.2) (.slice Ao99 t462.length co99)) (fun _ h_ => h_.1))) (Kd.R_base ho1) hb); replace HO_431000 := Aside0.mk (Kd.R_elder' (by (with_reducible repeat (first | apply Kd.R_alloc | apply Kd.R_drewN | apply Kd.R_drew)); exact (Kd.R_mono (Kd.R_far (p := ⟨gb465, 1, none⟩) (Kd.R_far (p := ⟨gb465, 0, none⟩) (Kd.R_types HO_431000.out BK465.out (by decide)) (fun _ hk => hk.2) (.slice Ao92 t459.length co92)) (fun _ hk => hk.2) (.slice Ao99 t462.length co99)) (fun _ h_ => h_.1))) (Kd.R_base ho0) hb); replace HO_431001 := Aside0.mk (Kd.R_elder' (by (with_reducible repeat (first | apply Kd.R_alloc | apply Kd.R_drewN | apply Kd.R_drew)); exact (Kd.R_mono (Kd.R_far (p := ⟨gb465, 1, none⟩) (Kd.R_far (p := ⟨gb465, 0, none⟩) (Kd.R_types HO_431001.out BK465.out (by decide)) (fun _ hk => hk.2) (.slice Ao92 t459.length co92)) (fun _ hk => hk.2) (.slice Ao99 t462.length co99)) (fun _ h_ => h_.1))) (Kd.R_base ho1) hb); replace HO440 := Aside0.mk (Kd.R_elder' (by (with_reducible repeat (first | apply Kd.R_alloc | apply Kd.R_drewN | apply Kd.R_drew)); exact (Kd.R_mono (Kd.R_far (p := ⟨gb465, 1, none⟩) (Kd.R_far (p := ⟨gb465, 0, none⟩) (Kd.R_types HO440.out BK465.out (by decide)) (fun _ hk => hk.2) (.slice Ao92 t459.length co92)) (fun _ hk => hk.2) (.slice Ao99 t462.length co99)) (fun _ h_ => h_.1))) (Kd.R_base ho0) hb); replace HO443 := Aside0.mk (Kd.R_elder' (by (with_reducible repeat (first | apply Kd.R_alloc | apply Kd.R_drewN | apply Kd.R_drew)); exact (Kd.R_mono (Kd.R_far (p := ⟨gb465, 1, none⟩) (Kd.R_far (p := ⟨gb465, 0, none⟩) (Kd.R_types HO443.out BK465.out (by decide)) (fun _ hk => hk.2) (.slice Ao92 t459.length co92)) (fun _ hk => hk.2) (.slice Ao99 t462.length co99)) (fun _ h_ => h_.1))) (Kd.R_base ho1) hb); replace HO446 := Aside0.mk (Kd.R_elder' (by (with_reducible repeat (first | apply Kd.R_alloc | apply Kd.R_drewN | apply Kd.R_drew)); exact (Kd.R_mono (Kd.R_far (p := ⟨gb465, 1, none⟩) (Kd.R_far (p := ⟨gb465, 0, none⟩) (Kd.R_types HO446.out BK465.out (by decide)) (fun _ hk => hk.2) (.slice Ao92 t459.length co92)) (fun _ hk => hk.2) (.slice Ao99 t462.length co99)) (fun _ h_ => h_.1))) (Kd.R_base ho0) hb); replace HO449 := Aside0.mk (Kd.R_elder' (by (with_reducible repeat (first | apply Kd.R_alloc | apply Kd.R_drewN | apply Kd.R_drew)); exact (Kd.R_mono (Kd.R_far (p := ⟨gb465, 1, none⟩) (Kd.R_far (p := ⟨gb465, 0, none⟩) (Kd.R_types HO449.out BK465.out (by decide)) (fun _ hk => hk.2) (.slice Ao92 t459.length co92)) (fun _ hk => hk.2) (.slice Ao99 t462.length co99)) (fun _ h_ => h_.1))) (Kd.R_base ho1) hb); replace HO454 := Aside0.mk (Kd.R_elder' (by (with_reducible repeat (first | apply Kd.R_alloc | apply Kd.R_drewN | apply Kd.R_drew)); exact (Kd.R_mono (Kd.R_far (p := ⟨gb465, 1, none⟩) (Kd.R_far (p := ⟨gb465, 0, none⟩) (Kd.R_types HO454.out BK465.out (by decide)) (fun _ hk => hk.2) (.slice Ao92 t459.length co92)) (fun _ hk => hk.2) (.slice Ao99 t462.length co99)) (fun _ h_ => h_.1))) (Kd.R_base ho0) hb); replace HO457 := Aside0.mk (Kd.R_elder' (by (with_reducible repeat (first | apply Kd.R_alloc | apply Kd.R_drewN | apply Kd.R_drew)); exact (Kd.R_mono (Kd.R_far (p := ⟨gb465, 1, none⟩) (Kd.R_far (p := ⟨gb465, 0, none⟩) (Kd.R_types HO457.out BK465.out (by decide)) (fun _ hk => hk.2) (.slice Ao92 t459.length co92)) (fun _ hk => hk.2) (.slice Ao99 t462.length co99)) (fun _ h_ => h_.1))) (Kd.R_base ho1) hb); replace HO461 := Aside0.mk (Kd.R_elder' (by (with_reducible repeat (first | apply Kd.R_alloc | apply Kd.R_drewN | apply Kd.R_drew)); exact (Kd.R_mono (Kd.R_far (p := ⟨gb465, 1, none⟩) (Kd.R_far (p := ⟨gb465, 0, none⟩) (Kd.R_types HO461.out BK465.out (by decide)) (fun _ hk => hk.2) (.slice Ao92 t459.length co92)) (fun _ hk => hk.2) (.slice Ao99 t462.length co99)) (fun _ h_ => h_.1))) (Kd.R_base ho0) hb); replace HO464 := Aside0.mk (Kd.R_elder' (by (with_reducible repeat (first | apply Kd.R_alloc | apply Kd.R_drewN | apply Kd.R_drew)); exact (Kd.R_mono (Kd.R_far (p := ⟨gb465, 1, none⟩) (Kd.R_far (p := ⟨gb465, 0, none⟩) (Kd.R_types HO464.out BK465.out (by decide)) (fun _ hk => hk.2) (.slice Ao92 t459.length co92)) (fun _ hk => hk.2) (.slice Ao99 t462.length co99)) (fun _ h_ => h_.1))) (Kd.R_base ho1) hb); replace BK417 := Aside0.mk (blk_below (g := gb417) (o := .cells #[.slice (some ad422) t411.length co15, .slice Ao17 t414.length co17] 28 (0, 0)) (by (with_reducible repeat (first | refine blk_drewN ?_ _ | refine blk_drew ?_ | refine blk_alloc ?_ _)); refine blk_far ?_ NB417_465.out _; (with_reducible repeat (first | refine blk_drewN ?_ _ | refine blk_drew ?_ | refine blk_alloc ?_ _)); refine blk_far ?_ NB417_465.out _; (with_reducible repeat (first | refine blk_drewN ?_ _ | refine blk_drew ?_ | refine blk_alloc ?_ _)); exact BK417.out) hb); replace BK430 := Aside0.mk (blk_below (g := gb430) (o := .cells #[.slice Ao25 t424.length co25, .slice Ao27 t427.length co27] 28 (0, 0)) (by (with_reducible repeat (first | refine blk_drewN ?_ _ | refine blk_drew ?_ | refine blk_alloc ?_ _)); refine blk_far ?_ NB430_465.out _; (with_reducible repeat (first | refine blk_drewN ?_ _ | refine blk_drew ?_ | refine blk_alloc ?_ _)); refine blk_far ?_ NB430_465.out _; (with_reducible repeat (first | refine blk_drewN ?_ _ | refine blk_drew ?_ | refine blk_alloc ?_ _)); exact BK430.out) hb); replace BK450 := Aside0.mk (blk_below (g := gb450) (o := .cells #[.slice Ao70 t438.length co70, .slice Ao75 t441.length co75] 28 (0, 0)) (by (with_reducible repeat (first | refine blk_drewN ?_ _ | refine blk_drew ?_ | refine blk_alloc ?_ _)); refine blk_far ?_ NB450_465.out _; (with_reducible repeat (first | refine blk_drewN ?_ _ | refine blk_drew ?_ | refine blk_alloc ?_ _)); refine blk_far ?_ NB450_465.out _; (with_reducible repeat (first | refine blk_drewN ?_ _ | refine blk_drew ?_ | refine blk_alloc ?_ _)); exact BK450.out) hb); replace BK451 := Aside0.mk (blk_below (g := gb451) (o := .cells #[.slice Ao76 t444.length co76, .slice Ao80 t447.length co80] 28 (0, 0)) (by (with_reducible repeat (first | refine blk_drewN ?_ _ | refine blk_drew ?_ | refine blk_alloc ?_ _)); refine blk_far ?_ NB451_465.out _; (with_reducible repeat (first | refine blk_drewN ?_ _ | refine blk_drew ?_ | refine blk_alloc ?_ _)); refine blk_far ?_ NB451_465.out _; (with_reducible repeat (first | refine blk_drewN ?_ _ | refine blk_drew ?_ | refine blk_alloc ?_ _)); exact BK451.out) hb); replace BK458 := Aside0.mk (blk_below (g := gb458) (o := .cells #[.slice Ao83 t452.length co83, .slice Ao89 t455.length co89] 28 (0, 0)) (by (with_reducible repeat (first | refine blk_drewN ?_ _ | refine blk_drew ?_ | refine blk_alloc ?_ _)); refine blk_far ?_ NB458_465.out _; (with_reducible repeat (first | refine blk_drewN ?_ _ | refine blk_drew ?_ | refine blk_alloc ?_ _)); refine blk_far ?_ NB458_465.out _; (with_reducible repeat (first | refine blk_drewN ?_ _ | refine blk_drew ?_ | refine blk_alloc ?_ _)); exact BK458.out) hb); replace BK465 := Aside0.mk (blk_below (g := gb465) (o := .cells #[.slice Ao92 t459.length co92, .slice Ao99 t462.length co99] 28 (0, 0)) (by (with_reducible repeat (first | refine blk_drewN ?_ _ | refine blk_drew ?_ | refine blk_alloc ?_ _)); refine blk_put (cs := #[.slice Ao92 t459.length co92, .slice none 0 0]) ?_ 1 _ rfl; (with_reducible repeat (first | refine blk_drewN ?_ _ | refine blk_drew ?_ | refine blk_alloc ?_ _)); refine blk_put (cs := #[.slice none 0 0, .slice none 0 0]) ?_ 0 _ rfl; (with_reducible repeat (first | refine blk_drewN ?_ _ | refine blk_drew ?_ | refine blk_alloc ?_ _)); exact BK465.out) hb); replace HB := Hs_ HB hb; (try clear hb); (try clear hb2); (try clear hk); (try clear hi); (try clear ho0); (try clear ho1)) | ((with_reducible refine gate_dst (N := 13) rfl ?_); refine box_event ?hg (N := 13) ?hd (cs := #[.slice none 0 0, .slice none 0 0]) (t := 28) ?hr ?_; (case hd => rfl); (case hg => rfl); (case hr => first | (go_simp; done) | (go_simp; rfl)); intro gb474 hg w101 hbox hb; have BK474 := Aside0.mk (hbox); have GW474 := Hg_ HB hg; have GE474 := GW474; have NB417_474 := Bl_ BK417 hg; have NB474_417 := Bm_ NB417_474; have NB430_474 := Bl_ BK430 hg; have NB474_430 := Bm_ NB430_474; have NB450_474 := Bl_ BK450 hg; have NB474_450 := Bm_ NB450_474; have NB451_474 := Bl_ BK451 hg; have NB474_451 := Bm_ NB451_474; have NB458_474 := Bl_ BK458 hg; have NB474_458 := Bm_ NB458_474; have NB465_474 := Bl_ BK465 hg; have NB474_465 := Bm_ NB465_474; replace HO_4 := Rb_ HO_4 hb; replace HO_418000 := Rb_ HO_418000 hb; replace HO_418001 := Rb_ HO_418001 hb; replace HO_431000 := Rb_ HO_431000 hb; replace HO_431001 := Rb_ HO_431001 hb; replace HO440 := Rb_ HO440 hb; replace HO443 := Rb_ HO443 hb; replace HO446 := Rb_ HO446 hb; replace HO449 := Rb_ HO449 hb; replace HO454 := Rb_ HO454 hb; replace HO457 := Rb_ HO457 hb; replace HO461 := Rb_ HO461 hb; replace HO464 := Rb_ HO464 hb; replace HO468 := Rb_ HO468 hb; replace HO471 := Rb_ HO471 hb; replace BK417 := Bb_ BK417 hb; replace BK430 := Bb_ BK430 hb; replace BK450 := Bb_ BK450 hb; replace BK451 := Bb_ BK451 hb; replace BK458 := Bb_ BK458 hb; replace BK465 := Bb_ BK465 hb; replace HB := Hs_ HB hb; clear hb hbox hg; obtain ⟨Ao102, co102, eo102⟩ := Kd.R_slice HO468.out; subst eo102; have hnb103 := NB474_417.out; have hnc103 := NB417_474.out; have hnb104 := NB474_430.out; have hnc104 := NB430_474.out; have hnb105 := NB474_450.out; have hnc105 := NB450_474.out; have hnb106 := NB474_451.out; have hnc106 := NB451_474.out; have hnb107 := NB474_458.out; have hnc107 := NB458_474.out; have hnb108 := NB474_465.out; have hnc108 := NB465_474.out; obtain ⟨hcz109_0, hcz109_1, hfz109_0, hfz109_1⟩ := Bc2_ BK474; obtain ⟨Ao110, co110, eo110⟩ := Kd.R_slice HO471.out; subst eo110))
               have n0_ : Aside0 (Kd.R (Kd.int .i64) 3 ((w101.setCell ⟨gb474, 0, none⟩ (.slice Ao102 t466.length co102)).setCell ⟨gb474, 1, none⟩ (.slice Ao110 t469.length co110)) w.heap.size (fun k_ => some k_ ≠ (.slice Ao17 t414.length co17 : Value).ownBlock ∧ some k_ ≠ (.slice Ao27 t427.length co27 : Value).ownBlock ∧ some k_ ≠ (.slice Ao75 t441.length co75 : Value).ownBlock ∧ some k_ ≠ (.slice Ao80 t447.length co80 : Value).ownBlock ∧ some k_ ≠ (.slice Ao89 t455.length co89 : Value).ownBlock ∧ some k_ ≠ (.slice Ao99 t462.length co99 : Value).ownBlock ∧ some k_ ≠ (.slice Ao110 t469.length co110 : Value).ownBlock) (.slice (some ad421) t418.length co20) t418) := ⟨by (with_reducible repeat (first | apply Kd.R_alloc | apply Kd.R_drewN | apply Kd.R_drew)); exact Kd.R_mono (Kd.R_far (p := ⟨gb474, 1, none⟩) (Kd.R_far (p := ⟨gb474, 0, none⟩) (Kd.R_types HO_4.out BK474.out (by decide)) (fun _ hk => hk.2) (.slice Ao102 t466.length co102)) (fun _ hk => hk.2) (.slice Ao110 t469.length co110)) (fun _ hk => ⟨hk.1.1.1.1.1.1.1, ⟨hk.1.1.1.1.1.1.2, ⟨hk.1.1.1.1.1.2, ⟨hk.1.1.1.1.2, ⟨hk.1.1.1.2, ⟨hk.1.1.2, hk.1.2⟩⟩⟩⟩⟩⟩)⟩
               have n1_ : Aside0 (Kd.R Kd.string 9 ((w101.setCell ⟨gb474, 0, none⟩ (.slice Ao102 t466.length co102)).setCell ⟨gb474, 1, none⟩ (.slice Ao110 t469.length co110)) w.heap.size (fun k_ => some k_ ≠ (.slice Ao25 t424.length co25 : Value).ownBlock ∧ some k_ ≠ (.slice Ao70 t438.length co70 : Value).ownBlock ∧ some k_ ≠ (.slice Ao76 t444.length co76 : Value).ownBlock ∧ some k_ ≠ (.slice Ao83 t452.length co83 : Value).ownBlock ∧ some k_ ≠ (.slice Ao92 t459.length co92 : Value).ownBlock ∧ some k_ ≠ (.slice Ao102 t466.length co102 : Value).ownBlock) (.slice (some ad422) t411.length co15) t411) := ⟨by (with_reducible repeat (first | apply Kd.R_alloc | apply Kd.R_drewN | apply Kd.R_drew)); exact Kd.R_mono (Kd.R_far (p := ⟨gb474, 1, none⟩) (Kd.R_far (p := ⟨gb474, 0, none⟩) (Kd.R_types HO_418000.out BK474.out (by decide)) (fun _ hk => hk.2) (.slice Ao102 t466.length co102)) (fun _ hk => hk.2) (.slice Ao110 t469.length co110)) (fun _ hk => ⟨hk.1.1.1.1.1.1, ⟨hk.1.1.1.1.1.2, ⟨hk.1.1.1.1.2, ⟨hk.1.1.1.2, ⟨hk.1.1.2, hk.1.2⟩⟩⟩⟩⟩)⟩
               have n2_ : Aside0 (Kd.R (Kd.int .i64) 3 ((w101.setCell ⟨gb474, 0, none⟩ (.slice Ao102 t466.length co102)).setCell ⟨gb474, 1, none⟩ (.slice Ao110 t469.length co110)) w.heap.size (fun k_ => some k_ ≠ (.slice (some ad421) t418.length co20 : Value).ownBlock ∧ some k_ ≠ (.slice Ao27 t427.length co27 : Value).ownBlock ∧ some k_ ≠ (.slice Ao75 t441.length co75 : Value).ownBlock ∧ some k_ ≠ (.slice Ao80 t447.length co80 : Value).ownBlock ∧ some k_ ≠ (.slice Ao89 t455.length co89 : Value).ownBlock ∧ some k_ ≠ (.slice Ao99 t462.length co99 : Value).ownBlock ∧ some k_ ≠ (.slice Ao110 t469.length co110 : Value).ownBlock) (.slice Ao17 t414.length co17) t414) := ⟨by (with_reducible repeat (first | apply Kd.R_alloc | apply Kd.R_drewN | apply Kd.R_drew)); exact Kd.R_mono (Kd.R_far (p := ⟨gb474, 1, none⟩) (Kd.R_far (p := ⟨gb474, 0, none⟩) (Kd.R_types HO_418001.out BK474.out (by decide)) (fun _ hk => hk.2) (.slice Ao102 t466.length co102)) (fun _ hk => hk.2) (.slice Ao110 t469.length co110)) (fun _ hk => ⟨hk.1.1.1.1.1.1.1, ⟨hk.1.1.1.1.1.1.2, ⟨hk.1.1.1.1.1.2, ⟨hk.1.1.1.1.2, ⟨hk.1.1.1.2, ⟨hk.1.1.2, hk.1.2⟩⟩⟩⟩⟩⟩)⟩
               have n3_ : Aside0 (Kd.R Kd.string 9 ((w101.setCell ⟨gb474, 0, none⟩ (.slice Ao102 t466.length co102)).setCell ⟨gb474, 1, none⟩ (.slice Ao110 t469.length co110)) w.heap.size (fun k_ => some k_ ≠ (.slice (some ad422) t411.length co15 : Value).ownBlock ∧ some k_ ≠ (.slice Ao70 t438.length co70 : Value).ownBlock ∧ some k_ ≠ (.slice Ao76 t444.length co76 : Value).ownBlock ∧ some k_ ≠ (.slice Ao83 t452.length co83 : Value).ownBlock ∧ some k_ ≠ (.slice Ao92 t459.length co92 : Value).ownBlock ∧ some k_ ≠ (.slice Ao102 t466.length co102 : Value).ownBlock) (.slice Ao25 t424.length co25) t424) := ⟨by (with_reducible repeat (first | apply Kd.R_alloc | apply Kd.R_drewN | apply Kd.R_drew)); exact Kd.R_mono (Kd.R_far (p := ⟨gb474, 1, none⟩) (Kd.R_far (p := ⟨gb474, 0, none⟩) (Kd.R_types HO_431000.out BK474.out (by decide)) (fun _ hk => hk.2) (.slice Ao102 t466.length co102)) (fun _ hk => hk.2) (.slice Ao110 t469.length co110)) (fun _ hk => ⟨hk.1.1.1.1.1.1, ⟨hk.1.1.1.1.1.2, ⟨hk.1.1.1.1.2, ⟨hk.1.1.1.2, ⟨hk.1.1.2, hk.1.2⟩⟩⟩⟩⟩)⟩
               have n4_ : Aside0 (Kd.R (Kd.int .i64) 3 ((w101.setCell ⟨gb474, 0, none⟩ (.slice Ao102 t466.length co102)).setCell ⟨gb474, 1, none⟩ (.slice Ao110 t469.length co110)) w.heap.size (fun k_ => some k_ ≠ (.slice (some ad421) t418.length co20 : Value).ownBlock ∧ some k_ ≠ (.slice Ao17 t414.length co17 : Value).ownBlock ∧ some k_ ≠ (.slice Ao75 t441.length co75 : Value).ownBlock ∧ some k_ ≠ (.slice Ao80 t447.length co80 : Value).ownBlock ∧ some k_ ≠ (.slice Ao89 t455.length co89 : Value).ownBlock ∧ some k_ ≠ (.slice Ao99 t462.length co99 : Value).ownBlock ∧ some k_ ≠ (.slice Ao110 t469.length co110 : Value).ownBlock) (.slice Ao27 t427.length co27) t427) := ⟨by (with_reducible repeat (first | apply Kd.R_alloc | apply Kd.R_drewN | apply Kd.R_drew)); exact Kd.R_mono (Kd.R_far (p := ⟨gb474, 1, none⟩) (Kd.R_far (p := ⟨gb474, 0, none⟩) (Kd.R_types HO_431001.out BK474.out (by decide)) (fun _ hk => hk.2) (.slice Ao102 t466.length co102)) (fun _ hk => hk.2) (.slice Ao110 t469.length co110)) (fun _ hk => ⟨hk.1.1.1.1.1.1.1, ⟨hk.1.1.1.1.1.1.2, ⟨hk.1.1.1.1.1.2, ⟨hk.1.1.1.1.2, ⟨hk.1.1.1.2, ⟨hk.1.1.2, hk.1.2⟩⟩⟩⟩⟩⟩)⟩
               have n5_ : Aside0 (Kd.R Kd.string 9 ((w101.setCell ⟨gb474, 0, none⟩ (.slice Ao102 t466.length co102)).setCell ⟨gb474, 1, none⟩ (.slice Ao110 t469.length co110)) w.heap.size (fun k_ => some k_ ≠ (.slice (some ad422) t411.length co15 : Value).ownBlock ∧ some k_ ≠ (.slice Ao25 t424.length co25 : Value).ownBlock ∧ some k_ ≠ (.slice Ao76 t444.length co76 : Value).ownBlock ∧ some k_ ≠ (.slice Ao83 t452.length co83 : Value).ownBlock ∧ some k_ ≠ (.slice Ao92 t459.length co92 : Value).ownBlock ∧ some k_ ≠ (.slice Ao102 t466.length co102 : Value).ownBlock) (.slice Ao70 t438.length co70) t438) := ⟨by (with_reducible repeat (first | apply Kd.R_alloc | apply Kd.R_drewN | apply Kd.R_drew)); exact Kd.R_mono (Kd.R_far (p := ⟨gb474, 1, none⟩) (Kd.R_far (p := ⟨gb474, 0, none⟩) (Kd.R_types HO440.out BK474.out (by decide)) (fun _ hk => hk.2) (.slice Ao102 t466.length co102)) (fun _ hk => hk.2) (.slice Ao110 t469.length co110)) (fun _ hk => ⟨hk.1.1.1.1.1.2, ⟨hk.1.1.1.1.2, ⟨hk.1.1.1.1.1.1, ⟨hk.1.1.1.2, ⟨hk.1.1.2, hk.1.2⟩⟩⟩⟩⟩)⟩
               have n6_ : Aside0 (Kd.R (Kd.int .i64) 3 ((w101.setCell ⟨gb474, 0, none⟩ (.slice Ao102 t466.length co102)).setCell ⟨gb474, 1, none⟩ (.slice Ao110 t469.length co110)) w.heap.size (fun k_ => some k_ ≠ (.slice (some ad421) t418.length co20 : Value).ownBlock ∧ some k_ ≠ (.slice Ao17 t414.length co17 : Value).ownBlock ∧ some k_ ≠ (.slice Ao27 t427.length co27 : Value).ownBlock ∧ some k_ ≠ (.slice Ao80 t447.length co80 : Value).ownBlock ∧ some k_ ≠ (.slice Ao89 t455.length co89 : Value).ownBlock ∧ some k_ ≠ (.slice Ao99 t462.length co99 : Value).ownBlock ∧ some k_ ≠ (.slice Ao110 t469.length co110 : Value).ownBlock) (.slice Ao75 t441.length co75) t441) := ⟨by (with_reducible repeat (first | apply Kd.R_alloc | apply Kd.R_drewN | apply Kd.R_drew)); exact Kd.R_mono (Kd.R_far (p := ⟨gb474, 1, none⟩) (Kd.R_far (p := ⟨gb474, 0, none⟩) (Kd.R_types HO443.out BK474.out (by decide)) (fun _ hk => hk.2) (.slice Ao102 t466.length co102)) (fun _ hk => hk.2) (.slice Ao110 t469.length co110)) (fun _ hk => ⟨hk.1.1.1.1.1.1.2, ⟨hk.1.1.1.1.1.2, ⟨hk.1.1.1.1.2, ⟨hk.1.1.1.1.1.1.1, ⟨hk.1.1.1.2, ⟨hk.1.1.2, hk.1.2⟩⟩⟩⟩⟩⟩)⟩
               have n7_ : Aside0 (Kd.R Kd.string 9 ((w101.setCell ⟨gb474, 0, none⟩ (.slice Ao102 t466.length co102)).setCell ⟨gb474, 1, none⟩ (.slice Ao110 t469.length co110)) w.heap.size (fun k_ => some k_ ≠ (.slice (some ad422) t411.length co15 : Value).ownBlock ∧ some k_ ≠ (.slice Ao25 t424.length co25 : Value).ownBlock ∧ some k_ ≠ (.slice Ao70 t438.length co70 : Value).ownBlock ∧ some k_ ≠ (.slice Ao83 t452.length co83 : Value).ownBlock ∧ some k_ ≠ (.slice Ao92 t459.length co92 : Value).ownBlock ∧ some k_ ≠ (.slice Ao102 t466.length co102 : Value).ownBlock) (.slice Ao76 t444.length co76) t444) := ⟨by (with_reducible repeat (first | apply Kd.R_alloc | apply Kd.R_drewN | apply Kd.R_drew)); exact Kd.R_mono (Kd.R_far (p := ⟨gb474, 1, none⟩) (Kd.R_far (p := ⟨gb474, 0, none⟩) (Kd.R_types HO446.out BK474.out (by decide)) (fun _ hk => hk.2) (.slice Ao102 t466.length co102)) (fun _ hk => hk.2) (.slice Ao110 t469.length co110)) (fun _ hk => ⟨hk.1.1.1.1.1.2, ⟨hk.1.1.1.1.2, ⟨hk.1.1.1.1.1.1, ⟨hk.1.1.1.2, ⟨hk.1.1.2, hk.1.2⟩⟩⟩⟩⟩)⟩
               have n8_ : Aside0 (Kd.R (Kd.int .i64) 3 ((w101.setCell ⟨gb474, 0, none⟩ (.slice Ao102 t466.length co102)).setCell ⟨gb474, 1, none⟩ (.slice Ao110 t469.length co110)) w.heap.size (fun k_ => some k_ ≠ (.slice (some ad421) t418.length co20 : Value).ownBlock ∧ some k_ ≠ (.slice Ao17 t414.length co17 : Value).ownBlock ∧ some k_ ≠ (.slice Ao27 t427.length co27 : Value).ownBlock ∧ some k_ ≠ (.slice Ao75 t441.length co75 : Value).ownBlock ∧ some k_ ≠ (.slice Ao89 t455.length co89 : Value).ownBlock ∧ some k_ ≠ (.slice Ao99 t462.length co99 : Value).ownBlock ∧ some k_ ≠ (.slice Ao110 t469.length co110 : Value).ownBlock) (.slice Ao80 t447.length co80) t447) := ⟨by (with_reducible repeat (first | apply Kd.R_alloc | apply Kd.R_drewN | apply Kd.R_drew)); exact Kd.R_mono (Kd.R_far (p := ⟨gb474, 1, none⟩) (Kd.R_far (p := ⟨gb474, 0, none⟩) (Kd.R_types HO449.out BK474.out (by decide)) (fun _ hk => hk.2) (.slice Ao102 t466.length co102)) (fun _ hk => hk.2) (.slice Ao110 t469.length co110)) (fun _ hk => ⟨hk.1.1.1.1.1.1.2, ⟨hk.1.1.1.1.1.2, ⟨hk.1.1.1.1.2, ⟨hk.1.1.1.1.1.1.1, ⟨hk.1.1.1.2, ⟨hk.1.1.2, hk.1.2⟩⟩⟩⟩⟩⟩)⟩
               have n9_ : Aside0 (Kd.R Kd.string 9 ((w101.setCell ⟨gb474, 0, none⟩ (.slice Ao102 t466.length co102)).setCell ⟨gb474, 1, none⟩ (.slice Ao110 t469.length co110)) w.heap.size (fun k_ => some k_ ≠ (.slice (some ad422) t411.length co15 : Value).ownBlock ∧ some k_ ≠ (.slice Ao25 t424.length co25 : Value).ownBlock ∧ some k_ ≠ (.slice Ao70 t438.length co70 : Value).ownBlock ∧ some k_ ≠ (.slice Ao76 t444.length co76 : Value).ownBlock ∧ some k_ ≠ (.slice Ao92 t459.length co92 : Value).ownBlock ∧ some k_ ≠ (.slice Ao102 t466.length co102 : Value).ownBlock) (.slice Ao83 t452.length co83) t452) := ⟨by (with_reducible repeat (first | apply Kd.R_alloc | apply Kd.R_drewN | apply Kd.R_drew)); exact Kd.R_mono (Kd.R_far (p := ⟨gb474, 1, none⟩) (Kd.R_far (p := ⟨gb474, 0, none⟩) (Kd.R_types HO454.out BK474.out (by decide)) (fun _ hk => hk.2) (.slice Ao102 t466.length co102)) (fun _ hk => hk.2) (.slice Ao110 t469.length co110)) (fun _ hk => ⟨hk.1.1.1.1.1.1.2, ⟨hk.1.1.1.1.1.2, ⟨hk.1.1.1.1.2, ⟨hk.1.1.1.2, ⟨hk.1.1.2, hk.1.2⟩⟩⟩⟩⟩)⟩
               have n10_ : Aside0 (Kd.R (Kd.int .i64) 3 ((w101.setCell ⟨gb474, 0, none⟩ (.slice Ao102 t466.length co102)).setCell ⟨gb474, 1, none⟩ (.slice Ao110 t469.length co110)) w.heap.size (fun k_ => some k_ ≠ (.slice (some ad421) t418.length co20 : Value).ownBlock ∧ some k_ ≠ (.slice Ao17 t414.length co17 : Value).ownBlock ∧ some k_ ≠ (.slice Ao27 t427.length co27 : Value).ownBlock ∧ some k_ ≠ (.slice Ao75 t441.length co75 : Value).ownBlock ∧ some k_ ≠ (.slice Ao80 t447.length co80 : Value).ownBlock ∧ some k_ ≠ (.slice Ao99 t462.length co99 : Value).ownBlock ∧ some k_ ≠ (.slice Ao110 t469.length co110 : Value).ownBlock) (.slice Ao89 t455.length co89) t455) := ⟨by (with_reducible repeat (first | apply Kd.R_alloc | apply Kd.R_drewN | apply Kd.R_drew)); exact Kd.R_mono (Kd.R_far (p := ⟨gb474, 1, none⟩) (Kd.R_far (p := ⟨gb474, 0, none⟩) (Kd.R_types HO457.out BK474.out (by decide)) (fun _ hk => hk.2) (.slice Ao102 t466.length co102)) (fun _ hk => hk.2) (.slice Ao110 t469.length co110)) (fun _ hk => ⟨hk.1.1.1.1.1.1.1.2, ⟨hk.1.1.1.1.1.1.2, ⟨hk.1.1.1.1.1.2, ⟨hk.1.1.1.1.2, ⟨hk.1.1.1.2, ⟨hk.1.1.2, hk.1.2⟩⟩⟩⟩⟩⟩)⟩
               have n11_ : Aside0 (Kd.R Kd.string 9 ((w101.setCell ⟨gb474, 0, none⟩ (.slice Ao102 t466.length co102)).setCell ⟨gb474, 1, none⟩ (.slice Ao110 t469.length co110)) w.heap.size (fun k_ => some k_ ≠ (.slice (some ad422) t411.length co15 : Value).ownBlock ∧ some k_ ≠ (.slice Ao25 t424.length co25 : Value).ownBlock ∧ some k_ ≠ (.slice Ao70 t438.length co70 : Value).ownBlock ∧ some k_ ≠ (.slice Ao76 t444.length co76 : Value).ownBlock ∧ some k_ ≠ (.slice Ao83 t452.length co83 : Value).ownBlock ∧ some k_ ≠ (.slice Ao102 t466.length co102 : Value).ownBlock) (.slice Ao92 t459.length co92) t459) := ⟨by (with_reducible repeat (first | apply Kd.R_alloc | apply Kd.R_drewN | apply Kd.R_drew)); exact Kd.R_mono (Kd.R_far (p := ⟨gb474, 1, none⟩) (Kd.R_far (p := ⟨gb474, 0, none⟩) (Kd.R_types HO461.out BK474.out (by decide)) (fun _ hk => hk.2) (.slice Ao102 t466.length co102)) (fun _ hk => hk.2) (.slice Ao110 t469.length co110)) (fun _ hk => ⟨hk.1.1.1.1.1.1.2, ⟨hk.1.1.1.1.1.2, ⟨hk.1.1.1.1.2, ⟨hk.1.1.1.2, ⟨hk.1.1.2, hk.1.2⟩⟩⟩⟩⟩)⟩
               have n12_ : Aside0 (Kd.R (Kd.int .i64) 3 ((w101.setCell ⟨gb474, 0, none⟩ (.slice Ao102 t466.length co102)).setCell ⟨gb474, 1, none⟩ (.slice Ao110 t469.length co110)) w.heap.size (fun k_ => some k_ ≠ (.slice (some ad421) t418.length co20 : Value).ownBlock ∧ some k_ ≠ (.slice Ao17 t414.length co17 : Value).ownBlock ∧ some k_ ≠ (.slice Ao27 t427.length co27 : Value).ownBlock ∧ some k_ ≠ (.slice Ao75 t441.length co75 : Value).ownBlock ∧ some k_ ≠ (.slice Ao80 t447.length co80 : Value).ownBlock ∧ some k_ ≠ (.slice Ao89 t455.length co89 : Value).ownBlock ∧ some k_ ≠ (.slice Ao110 t469.length co110 : Value).ownBlock) (.slice Ao99 t462.length co99) t462) := ⟨by (with_reducible repeat (first | apply Kd.R_alloc | apply Kd.R_drewN | apply Kd.R_drew)); exact Kd.R_mono (Kd.R_far (p := ⟨gb474, 1, none⟩) (Kd.R_far (p := ⟨gb474, 0, none⟩) (Kd.R_types HO464.out BK474.out (by decide)) (fun _ hk => hk.2) (.slice Ao102 t466.length co102)) (fun _ hk => hk.2) (.slice Ao110 t469.length co110)) (fun _ hk => ⟨hk.1.1.1.1.1.1.1.2, ⟨hk.1.1.1.1.1.1.2, ⟨hk.1.1.1.1.1.2, ⟨hk.1.1.1.1.2, ⟨hk.1.1.1.2, ⟨hk.1.1.2, hk.1.2⟩⟩⟩⟩⟩⟩)⟩
               have n13_ : Aside0 (Kd.R Kd.string 9 ((w101.setCell ⟨gb474, 0, none⟩ (.slice Ao102 t466.length co102)).setCell ⟨gb474, 1, none⟩ (.slice Ao110 t469.length co110)) w.heap.size (fun k_ => some k_ ≠ (.slice (some ad422) t411.length co15 : Value).ownBlock ∧ some k_ ≠ (.slice Ao25 t424.length co25 : Value).ownBlock ∧ some k_ ≠ (.slice Ao70 t438.length co70 : Value).ownBlock ∧ some k_ ≠ (.slice Ao76 t444.length co76 : Value).ownBlock ∧ some k_ ≠ (.slice Ao83 t452.length co83 : Value).ownBlock ∧ some k_ ≠ (.slice Ao92 t459.length co92 : Value).ownBlock) (.slice Ao102 t466.length co102) t466) := ⟨by (with_reducible repeat (first | apply Kd.R_alloc | apply Kd.R_drewN | apply Kd.R_drew)); exact Kd.R_mono (Kd.R_far (p := ⟨gb474, 1, none⟩) (Kd.R_far (p := ⟨gb474, 0, none⟩) (Kd.R_types HO468.out BK474.out (by decide)) (fun _ hk => hk.2) (.slice Ao102 t466.length co102)) (fun _ hk => hk.2) (.slice Ao110 t469.length co110)) (fun _ hk => ⟨hk.1.1.1.1.1.1.2, ⟨hk.1.1.1.1.1.2, ⟨hk.1.1.1.1.2, ⟨hk.1.1.1.2, ⟨hk.1.1.2, hk.1.2⟩⟩⟩⟩⟩)⟩
               have n14_ : Aside0 (Kd.R (Kd.int .i64) 3 ((w101.setCell ⟨gb474, 0, none⟩ (.slice Ao102 t466.length co102)).setCell ⟨gb474, 1, none⟩ (.slice Ao110 t469.length co110)) w.heap.size (fun k_ => some k_ ≠ (.slice (some ad421) t418.length co20 : Value).ownBlock ∧ some k_ ≠ (.slice Ao17 t414.length co17 : Value).ownBlock ∧ some k_ ≠ (.slice Ao27 t427.length co27 : Value).ownBlock ∧ some k_ ≠ (.slice Ao75 t441.length co75 : Value).ownBlock ∧ some k_ ≠ (.slice Ao80 t447.length co80 : Value).ownBlock ∧ some k_ ≠ (.slice Ao89 t455.length co89 : Value).ownBlock ∧ some k_ ≠ (.slice Ao99 t462.length co99 : Value).ownBlock) (.slice Ao110 t469.length co110) t469) := ⟨by (with_reducible repeat (first | apply Kd.R_alloc | apply Kd.R_drewN | apply Kd.R_drew)); exact Kd.R_mono (Kd.R_far (p := ⟨gb474, 1, none⟩) (Kd.R_far (p := ⟨gb474, 0, none⟩) (Kd.R_types HO471.out BK474.out (by decide)) (fun _ hk => hk.2) (.slice Ao102 t466.length co102)) (fun _ hk => hk.2) (.slice Ao110 t469.length co110)) (fun _ hk => ⟨hk.1.1.1.1.1.1.1.2, ⟨hk.1.1.1.1.1.1.2, ⟨hk.1.1.1.1.1.2, ⟨hk.1.1.1.1.2, ⟨hk.1.1.1.2, ⟨hk.1.1.2, hk.1.2⟩⟩⟩⟩⟩⟩)⟩
               have n15_ : Aside0 (((w101.setCell ⟨gb474, 0, none⟩ (.slice Ao102 t466.length co102)).setCell ⟨gb474, 1, none⟩ (.slice Ao110 t469.length co110)).heap[gb417]? = some (.cells #[.slice (some ad422) t411.length co15, .slice Ao17 t414.length co17] 28 (0, 0))) := ⟨by (with_reducible repeat (first | refine blk_drewN ?_ _ | refine blk_drew ?_ | refine blk_alloc ?_ _)); refine blk_far ?_ NB417_474.out _; (with_reducible repeat (first | refine blk_drewN ?_ _ | refine blk_drew ?_ | refine blk_alloc ?_ _)); refine blk_far ?_ NB417_474.out _; (with_reducible repeat (first | refine blk_drewN ?_ _ | refine blk_drew ?_ | refine blk_alloc ?_ _)); exact BK417.out⟩
               have n16_ : Aside0 (((w101.setCell ⟨gb474, 0, none⟩ (.slice Ao102 t466.length co102)).setCell ⟨gb474, 1, none⟩ (.slice Ao110 t469.length co110)).heap[gb430]? = some (.cells #[.slice Ao25 t424.length co25, .slice Ao27 t427.length co27] 28 (0, 0))) := ⟨by (with_reducible repeat (first | refine blk_drewN ?_ _ | refine blk_drew ?_ | refine blk_alloc ?_ _)); refine blk_far ?_ NB430_474.out _; (with_reducible repeat (first | refine blk_drewN ?_ _ | refine blk_drew ?_ | refine blk_alloc ?_ _)); refine blk_far ?_ NB430_474.out _; (with_reducible repeat (first | refine blk_drewN ?_ _ | refine blk_drew ?_ | refine blk_alloc ?_ _)); exact BK430.out⟩
               have n17_ : Aside0 (((w101.setCell ⟨gb474, 0, none⟩ (.slice Ao102 t466.length co102)).setCell ⟨gb474, 1, none⟩ (.slice Ao110 t469.length co110)).heap[gb450]? = some (.cells #[.slice Ao70 t438.length co70, .slice Ao75 t441.length co75] 28 (0, 0))) := ⟨by (with_reducible repeat (first | refine blk_drewN ?_ _ | refine blk_drew ?_ | refine blk_alloc ?_ _)); refine blk_far ?_ NB450_474.out _; (with_reducible repeat (first | refine blk_drewN ?_ _ | refine blk_drew ?_ | refine blk_alloc ?_ _)); refine blk_far ?_ NB450_474.out _; (with_reducible repeat (first | refine blk_drewN ?_ _ | refine blk_drew ?_ | refine blk_alloc ?_ _)); exact BK450.out⟩
               have n18_ : Aside0 (((w101.setCell ⟨gb474, 0, none⟩ (.slice Ao102 t466.length co102)).setCell ⟨gb474, 1, none⟩ (.slice Ao110 t469.length co110)).heap[gb451]? = some (.cells #[.slice Ao76 t444.length co76, .slice Ao80 t447.length co80] 28 (0, 0))) := ⟨by (with_reducible repeat (first | refine blk_drewN ?_ _ | refine blk_drew ?_ | refine blk_alloc ?_ _)); refine blk_far ?_ NB451_474.out _; (with_reducible repeat (first | refine blk_drewN ?_ _ | refine blk_drew ?_ | refine blk_alloc ?_ _)); refine blk_far ?_ NB451_474.out _; (with_reducible repeat (first | refine blk_drewN ?_ _ | refine blk_drew ?_ | refine blk_alloc ?_ _)); exact BK451.out⟩
               have n19_ : Aside0 (((w101.setCell ⟨gb474, 0, none⟩ (.slice Ao102 t466.length co102)).setCell ⟨gb474, 1, none⟩ (.slice Ao110 t469.length co110)).heap[gb458]? = some (.cells #[.slice Ao83 t452.length co83, .slice Ao89 t455.length co89] 28 (0, 0))) := ⟨by (with_reducible repeat (first | refine blk_drewN ?_ _ | refine blk_drew ?_ | refine blk_alloc ?_ _)); refine blk_far ?_ NB458_474.out _; (with_reducible repeat (first | refine blk_drewN ?_ _ | refine blk_drew ?_ | refine blk_alloc ?_ _)); refine blk_far ?_ NB458_474.out _; (with_reducible repeat (first | refine blk_drewN ?_ _ | refine blk_drew ?_ | refine blk_alloc ?_ _)); exact BK458.out⟩
               have n20_ : Aside0 (((w101.setCell ⟨gb474, 0, none⟩ (.slice Ao102 t466.length co102)).setCell ⟨gb474, 1, none⟩ (.slice Ao110 t469.length co110)).heap[gb465]? = some (.cells #[.slice Ao92 t459.length co92, .slice Ao99 t462.length co99] 28 (0, 0))) := ⟨by (with_reducible repeat (first | refine blk_drewN ?_ _ | refine blk_drew ?_ | refine blk_alloc ?_ _)); refine blk_far ?_ NB465_474.out _; (with_reducible repeat (first | refine blk_drewN ?_ _ | refine blk_drew ?_ | refine blk_alloc ?_ _)); refine blk_far ?_ NB465_474.out _; (with_reducible repeat (first | refine blk_drewN ?_ _ | refine blk_drew ?_ | refine blk_alloc ?_ _)); exact BK465.out⟩
               have n21_ : Aside0 (((w101.setCell ⟨gb474, 0, none⟩ (.slice Ao102 t466.length co102)).setCell ⟨gb474, 1, none⟩ (.slice Ao110 t469.length co110)).heap[gb474]? = some (.cells #[.slice Ao102 t466.length co102, .slice Ao110 t469.length co110] 28 (0, 0))) := ⟨by (with_reducible repeat (first | refine blk_drewN ?_ _ | refine blk_drew ?_ | refine blk_alloc ?_ _)); refine blk_put (cs := #[.slice Ao102 t466.length co102, .slice none 0 0]) ?_ 1 _ rfl; (with_reducible repeat (first | refine blk_drewN ?_ _ | refine blk_drew ?_ | refine blk_alloc ?_ _)); refine blk_put (cs := #[.slice none 0 0, .slice none 0 0]) ?_ 0 _ rfl; (with_reducible repeat (first | refine blk_drewN ?_ _ | refine blk_drew ?_ | refine blk_alloc ?_ _)); exact BK474.out⟩
               have n22_ : Aside0 (Below w.heap.size w ((w101.setCell ⟨gb474, 0, none⟩ (.slice Ao102 t466.length co102)).setCell ⟨gb474, 1, none⟩ (.slice Ao110 t469.length co110))) := ⟨Hf_ HB⟩
               (try clear HO_4)
               (try clear HO_418000)
               (try clear HO_418001)
               (try clear HO_431000)
               (try clear HO_431001)
               (try clear HO440)
               (try clear HO443)
               (try clear HO446)
               (try clear HO449)
               (try clear HO454)
               (try clear HO457)
               (try clear HO461)
               (try clear HO464)
               (try clear HO468)
               (try clear HO471)
               (try clear BK417)
               (try clear BK430)
               (try clear BK450)
               (try clear BK451)
               (try clear BK458)
               (try clear BK465)
               (try clear BK474)
               (try clear HB)
               generalize ((w101.setCell ⟨gb474, 0, none⟩ (.slice Ao102 t466.length co102)).setCell ⟨gb474, 1, none⟩ (.slice Ao110 t469.length co110)) = w111 at n0_ n1_ n2_ n3_ n4_ n5_ n6_ n7_ n8_ n9_ n10_ n11_ n12_ n13_ n14_ n15_ n16_ n17_ n18_ n19_ n20_ n21_ n22_ ⊢
               have HO_4 := n0_
               have HO_418000 := n1_
               have HO_418001 := n2_
               have HO_431000 := n3_
               have HO_431001 := n4_
               have HO440 := n5_
               have HO443 := n6_
               have HO446 := n7_
               have HO449 := n8_
               have HO454 := n9_
               have HO457 := n10_
               have HO461 := n11_
               have HO464 := n12_
               have HO468 := n13_
               have HO471 := n14_
               have BK417 := n15_
               have BK430 := n16_
               have BK450 := n17_
               have BK451 := n18_
               have BK458 := n19_
               have BK465 := n20_
               have BK474 := n21_
               have HB := n22_
               clear n0_ n1_ n2_ n3_ n4_ n5_ n6_ n7_ n8_ n9_ n10_ n11_ n12_ n13_ n14_ n15_ n16_ n17_ n18_ n19_ n20_ n21_ n22_
               replace HO_4 := Aside0.mk (Kd.R_drew HO_4.out); replace HO_418000 := Aside0.mk (Kd.R_drew HO_418000.out); replace HO_418001 := Aside0.mk (Kd.R_drew HO_418001.out); replace HO_431000 := Aside0.mk (Kd.R_drew HO_431000.out); replace HO_431001 := Aside0.mk (Kd.R_drew HO_431001.out); replace HO440 := Aside0.mk (Kd.R_drew HO440.out); replace HO443 := Aside0.mk (Kd.R_drew HO443.out); replace HO446 := Aside0.mk (Kd.R_drew HO446.out); replace HO449 := Aside0.mk (Kd.R_drew HO449.out); replace HO454 := Aside0.mk (Kd.R_drew HO454.out); replace HO457 := Aside0.mk (Kd.R_drew HO457.out); replace HO461 := Aside0.mk (Kd.R_drew HO461.out); replace HO464 := Aside0.mk (Kd.R_drew HO464.out); replace HO468 := Aside0.mk (Kd.R_drew HO468.out); replace HO471 := Aside0.mk (Kd.R_drew HO471.out); replace BK417 := Aside0.mk (blk_drew BK417.out); replace BK430 := Aside0.mk (blk_drew BK430.out); replace BK450 := Aside0.mk (blk_drew BK450.out); replace BK451 := Aside0.mk (blk_drew BK451.out); replace BK458 := Aside0.mk (blk_drew BK458.out); replace BK465 := Aside0.mk (blk_drew BK465.out); replace BK474 := Aside0.mk (blk_drew BK474.out); replace HB := Aside0.mk (below_drew1 HB.out)
               refine start_ (n := 37) (S := fun w' => w'.cell? ⟨gb417, 0, none⟩ = some (.slice (some ad422) t411.length co15) ∧ w'.cell? ⟨gb417, 1, none⟩ = some (.slice Ao17 t414.length co17) ∧ w'.cell? ⟨gb430, 0, none⟩ = some (.slice Ao25 t424.length co25) ∧ w'.cell? ⟨gb430, 1, none⟩ = some (.slice Ao27 t427.length co27) ∧ w'.cell? ⟨gb458, 0, none⟩ = some (.slice Ao83 t452.length co83) ∧ w'.cell? ⟨gb458, 1, none⟩ = some (.slice Ao89 t455.length co89) ∧ w'.cell? ⟨gb450, 0, none⟩ = some (.slice Ao70 t438.length co70) ∧ w'.cell? ⟨gb450, 1, none⟩ = some (.slice Ao75 t441.length co75) ∧ w'.cell? ⟨gb451, 0, none⟩ = some (.slice Ao76 t444.length co76) ∧ w'.cell? ⟨gb451, 1, none⟩ = some (.slice Ao80 t447.length co80) ∧ w'.cell? ⟨gb465, 0, none⟩ = some (.slice Ao92 t459.length co92) ∧ w'.cell? ⟨gb465, 1, none⟩ = some (.slice Ao99 t462.length co99) ∧ w'.cell? ⟨gb474, 0, none⟩ = some (.slice Ao102 t466.length co102) ∧ w'.cell? ⟨gb474, 1, none⟩ = some (.slice Ao110 t469.length co110)) (ds := []) #[false, false, false, false, false, false, false, false, false, false, false, false, false, false, false, false, false, false, false, false, false, false, false, false, false, false, false, false, false, false, false, false, false, false, false, false, false] (by kernel_rfl) rfl rfl ⟨(blk_cell BK417.out 0).trans rfl, (blk_cell BK417.out 1).trans rfl, (blk_cell BK430.out 0).trans rfl, (blk_cell BK430.out 1).trans rfl, (blk_cell BK458.out 0).trans rfl, (blk_cell BK458.out 1).trans rfl, (blk_cell BK450.out 0).trans rfl, (blk_cell BK450.out 1).trans rfl, (blk_cell BK451.out 0).trans rfl, (blk_cell BK451.out 1).trans rfl, (blk_cell BK465.out 0).trans rfl, (blk_cell BK465.out 1).trans rfl, (blk_cell BK474.out 0).trans rfl, (blk_cell BK474.out 1).trans rfl⟩ (fun hHeld => ?_); refine with_tabW laws_FnEnvs.tab19 laws_FnEnvs.bits19 (fun HT_ HW_ => ?_)
               generalize w111.drew = w112 at HO_4 HO_418000 HO_418001 HO_431000 HO_431001 HO440 HO443 HO446 HO449 HO454 HO457 HO461 HO464 HO468 HO471 BK417 BK430 BK450 BK451 BK458 BK465 BK474 HB hHeld ⊢
               refine take_ (i := 0) (N := some 86) (v := ?_) (a' := ?_) #[true, false, false, false, false, false, false, false, false, false, false, false, false, false, false, false, false, false, false, false, false, false, false, false, false, false, false, false, false, false, false, false, false, false, false, false, false] rfl rfl (take_ofW HT_.out HW_.out (by kernel_rfl)) (fun _ _ _ h => h) (Or.inl ⟨by rfl, ?_⟩) hHeld ?_ ?_
               rotate_left
               ·rintro w' ⟨s0, s1, s2, s3, s4, s5, s6, s7, s8, s9, s10, s11, s12, s13⟩
                go_simp
                with_reducible rfl
               rotate_left
               ·simp only [Act.put, List.setIfInBounds_toArray, List.set_cons_zero, List.set_cons_succ, i64_w, i32_w]
                rfl
               refine one_ (i := 1) (N := some 87) #[true, true, false, false, false, false, false, false, false, false, false, false, false, false, false, false, false, false, false, false, false, false, false, false, false, false, false, false, false, false, false, false, false, false, false, false, false] rfl rfl (one_of HT_.out (by kernel_rfl)) (by decide) (fun K hK => ?_)
               refine goes_ Try.func16 (by kernel_rfl) rfl #[.agg #[.slice (some ad422) t411.length co15, .slice Ao17 t414.length co17]] (by rfl) rfl rfl Mp_ ?_
               with_reducible refine (impl_EnvOk.calls k1 _ _ t411 _ _ t414 true _ ?side1 ?side2 ?side3 ?side4 A50.out).mono ?_
               (case side1 => exact Cq_ (Kd.R_reads' HO_418000.out).2.2)
               (case side2 => exact (Kd.R_reads' HO_418000.out).2.1)
               (case side3 => exact Cq_ (Kd.R_reads' HO_418001.out).2.2)
               (case side4 => exact (Kd.R_reads' HO_418001.out).2.1)
               rintro e w113 ⟨rfl, hb⟩
               refine ⟨_, rfl, ?_⟩
               replace HO_4 := Rb_ HO_4 hb; replace HO_418000 := Rb_ HO_418000 hb; replace HO_418001 := Rb_ HO_418001 hb; replace HO_431000 := Rb_ HO_431000 hb; replace HO_431001 := Rb_ HO_431001 hb; replace HO440 := Rb_ HO440 hb; replace HO443 := Rb_ HO443 hb; replace HO446 := Rb_ HO446 hb; replace HO449 := Rb_ HO449 hb; replace HO454 := Rb_ HO454 hb; replace HO457 := Rb_ HO457 hb; replace HO461 := Rb_ HO461 hb; replace HO464 := Rb_ HO464 hb; replace HO468 := Rb_ HO468 hb; replace HO471 := Rb_ HO471 hb; replace BK417 := Bb_ BK417 hb; replace BK430 := Bb_ BK430 hb; replace BK450 := Bb_ BK450 hb; replace BK451 := Bb_ BK451 hb; replace BK458 := Bb_ BK458 hb; replace BK465 := Bb_ BK465 hb; replace BK474 := Bb_ BK474 hb; replace HB := Hs_ HB hb
               (try clear hb)
               (try clear hb2)
               (try clear hk)
               (try clear hi)
               refine hK.out _ _ ⟨(blk_cell BK417.out 0).trans rfl, (blk_cell BK417.out 1).trans rfl, (blk_cell BK430.out 0).trans rfl, (blk_cell BK430.out 1).trans rfl, (blk_cell BK458.out 0).trans rfl, (blk_cell BK458.out 1).trans rfl, (blk_cell BK450.out 0).trans rfl, (blk_cell BK450.out 1).trans rfl, (blk_cell BK451.out 0).trans rfl, (blk_cell BK451.out 1).trans rfl, (blk_cell BK465.out 0).trans rfl, (blk_cell BK465.out 1).trans rfl, (blk_cell BK474.out 0).trans rfl, (blk_cell BK474.out 1).trans rfl⟩ (fun hHeld => ?_)
               clear hK K
               refine norm_ (a' := ?_) ?_ ?_
               rotate_left
               ·show Act.put _ (some 87) _ = _
                simp only [Act.put, List.setIfInBounds_toArray, List.set_cons_zero, List.set_cons_succ, i64_w, i32_w]
                rfl
               refine pure_ (i := 2) (N := some 88) (v := ?_) (a' := ?_) #[true, true, true, false, false, false, false, false, false, false, false, false, false, false, false, false, false, false, false, false, false, false, false, false, false, false, false, false, false, false, false, false, false, false, false, false, false] rfl rfl (any_of HT_.out (by kernel_rfl)) (fun _ _ _ h => h) (Or.inl ⟨by rfl, ?_⟩) ?_ ?_
               rotate_left
               ·intro w'
                go_simp
                with_reducible rfl
               rotate_left
               ·simp only [Act.put, List.setIfInBounds_toArray, List.set_cons_zero, List.set_cons_succ, i64_w, i32_w]
                rfl
               refine take_ (i := 3) (N := some 89) (v := ?_) (a' := ?_) #[true, true, true, true, false, false, false, false, false, false, false, false, false, false, false, false, false, false, false, false, false, false, false, false, false, false, false, false, false, false, false, false, false, false, false, false, false] rfl rfl (take_ofW HT_.out HW_.out (by kernel_rfl)) (fun _ _ _ h => h) (Or.inl ⟨by rfl, ?_⟩) hHeld ?_ ?_
               rotate_left
               ·rintro w' ⟨s0, s1, s2, s3, s4, s5, s6, s7, s8, s9, s10, s11, s12, s13⟩
                go_simp
                with_reducible rfl
               rotate_left
               ·simp only [Act.put, List.setIfInBounds_toArray, List.set_cons_zero, List.set_cons_succ, i64_w, i32_w]
                rfl
               refine one_ (i := 4) (N := some 90) #[true, true, true, true, true, false, false, false, false, false, false, false, false, false, false, false, false, false, false, false, false, false, false, false, false, false, false, false, false, false, false, false, false, false, false, false, false] rfl rfl (one_of HT_.out (by kernel_rfl)) (by decide) (fun K hK => ?_)
               refine goes_ Try.func16 (by kernel_rfl) rfl #[.agg #[.slice Ao25 t424.length co25, .slice Ao27 t427.length co27]] (by rfl) rfl rfl Mp_ ?_
               with_reducible refine (impl_EnvOk.calls k1 _ _ t424 _ _ t427 true _ ?side1 ?side2 ?side3 ?side4 A52.out).mono ?_
               (case side1 => exact Cq_ (Kd.R_reads' HO_431000.out).2.2)
               (case side2 => exact (Kd.R_reads' HO_431000.out).2.1)
               (case side3 => exact Cq_ (Kd.R_reads' HO_431001.out).2.2)
               (case side4 => exact (Kd.R_reads' HO_431001.out).2.1)
               rintro e w114 ⟨rfl, hb⟩
               refine ⟨_, rfl, ?_⟩
               replace HO_4 := Rb_ HO_4 hb; replace HO_418000 := Rb_ HO_418000 hb; replace HO_418001 := Rb_ HO_418001 hb; replace HO_431000 := Rb_ HO_431000 hb; replace HO_431001 := Rb_ HO_431001 hb; replace HO440 := Rb_ HO440 hb; replace HO443 := Rb_ HO443 hb; replace HO446 := Rb_ HO446 hb; replace HO449 := Rb_ HO449 hb; replace HO454 := Rb_ HO454 hb; replace HO457 := Rb_ HO457 hb; replace HO461 := Rb_ HO461 hb; replace HO464 := Rb_ HO464 hb; replace HO468 := Rb_ HO468 hb; replace HO471 := Rb_ HO471 hb; replace BK417 := Bb_ BK417 hb; replace BK430 := Bb_ BK430 hb; replace BK450 := Bb_ BK450 hb; replace BK451 := Bb_ BK451 hb; replace BK458 := Bb_ BK458 hb; replace BK465 := Bb_ BK465 hb; replace BK474 := Bb_ BK474 hb; replace HB := Hs_ HB hb
               (try clear hb)
               (try clear hb2)
               (try clear hk)
               (try clear hi)
               refine hK.out _ _ ⟨(blk_cell BK417.out 0).trans rfl, (blk_cell BK417.out 1).trans rfl, (blk_cell BK430.out 0).trans rfl, (blk_cell BK430.out 1).trans rfl, (blk_cell BK458.out 0).trans rfl, (blk_cell BK458.out 1).trans rfl, (blk_cell BK450.out 0).trans rfl, (blk_cell BK450.out 1).trans rfl, (blk_cell BK451.out 0).trans rfl, (blk_cell BK451.out 1).trans rfl, (blk_cell BK465.out 0).trans rfl, (blk_cell BK465.out 1).trans rfl, (blk_cell BK474.out 0).trans rfl, (blk_cell BK474.out 1).trans rfl⟩ (fun hHeld => ?_)
               clear hK K
               refine norm_ (a' := ?_) ?_ ?_
               rotate_left
               ·show Act.put _ (some 90) _ = _
                simp only [Act.put, List.setIfInBounds_toArray, List.set_cons_zero, List.set_cons_succ, i64_w, i32_w]
                rfl
               refine pure_ (i := 5) (N := some 91) (v := ?_) (a' := ?_) #[true, true, true, true, true, true, false, false, false, false, false, false, false, false, false, false, false, false, false, false, false, false, false, false, false, false, false, false, false, false, false, false, false, false, false, false, false] rfl rfl (any_of HT_.out (by kernel_rfl)) (fun _ _ _ h => h) (Or.inl ⟨by rfl, ?_⟩) ?_ ?_
               rotate_left
               ·intro w'
                go_simp
                with_reducible rfl
               rotate_left
               ·simp only [Act.put, List.setIfInBounds_toArray, List.set_cons_zero, List.set_cons_succ, i64_w, i32_w]
                rfl
               refine pure_ (i := 6) (N := some 92) (v := ?_) (a' := ?_) #[true, true, true, true, true, true, true, false, false, false, false, false, false, false, false, false, false, false, false, false, false, false, false, false, false, false, false, false, false, false, false, false, false, false, false, false, false] rfl rfl (any_of HT_.out (by kernel_rfl)) (fun _ _ _ h => h) (Or.inl ⟨by rfl, ?_⟩) ?_ ?_
               rotate_left
               ·intro w'
                go_simp
                with_reducible rfl
               rotate_left
               ·simp only [Act.put, List.setIfInBounds_toArray, List.set_cons_zero, List.set_cons_succ, i64_w, i32_w]
                rfl
               refine take_ (i := 7) (N := some 93) (v := ?_) (a' := ?_) #[true, true, true, true, true, true, true, true, false, false, false, false, false, false, false, false, false, false, false, false, false, false, false, false, false, false, false, false, false, false, false, false, false, false, false, false, false] rfl rfl (take_ofW HT_.out HW_.out (by kernel_rfl)) (fun _ _ _ h => h) (Or.inl ⟨by rfl, ?_⟩) hHeld ?_ ?_
               rotate_left
               ·rintro w' ⟨s0, s1, s2, s3, s4, s5, s6, s7, s8, s9, s10, s11, s12, s13⟩
                go_simp
                with_reducible rfl
               rotate_left
               ·simp only [Act.put, List.setIfInBounds_toArray, List.set_cons_zero, List.set_cons_succ, i64_w, i32_w]
                rfl
               refine take_ (i := 8) (N := some 94) (v := ?_) (a' := ?_) #[true, true, true, true, true, true, true, true, true, false, false, false, false, false, false, false, false, false, false, false, false, false, false, false, false, false, false, false, false, false, false, false, false, false, false, false, false] rfl rfl (take_ofW HT_.out HW_.out (by kernel_rfl)) (fun _ _ _ h => h) (Or.inl ⟨by rfl, ?_⟩) hHeld ?_ ?_
               rotate_left
               ·rintro w' ⟨s0, s1, s2, s3, s4, s5, s6, s7, s8, s9, s10, s11, s12, s13⟩
                go_simp
                with_reducible rfl
               rotate_left
               ·simp only [Act.put, List.setIfInBounds_toArray, List.set_cons_zero, List.set_cons_succ, i64_w, i32_w]
                rfl
               refine take_ (i := 9) (N := some 95) (v := ?_) (a' := ?_) #[true, true, true, true, true, true, true, true, true, true, false, false, false, false, false, false, false, false, false, false, false, false, false, false, false, false, false, false, false, false, false, false, false, false, false, false, false] rfl rfl (take_ofW HT_.out HW_.out (by kernel_rfl)) (fun _ _ _ h => h) (Or.inl ⟨by rfl, ?_⟩) hHeld ?_ ?_
               rotate_left
               ·rintro w' ⟨s0, s1, s2, s3, s4, s5, s6, s7, s8, s9, s10, s11, s12, s13⟩
                go_simp
                with_reducible rfl
               rotate_left
               ·simp only [Act.put, List.setIfInBounds_toArray, List.set_cons_zero, List.set_cons_succ, i64_w, i32_w]
                rfl
               refine one_ (i := 10) (N := some 96) #[true, true, true, true, true, true, true, true, true, true, true, false, false, false, false, false, false, false, false, false, false, false, false, false, false, false, false, false, false, false, false, false, false, false, false, false, false] rfl rfl (one_of HT_.out (by kernel_rfl)) (by decide) (fun K hK => ?_)
               refine goes_ Try.func22 (by kernel_rfl) rfl #[.agg #[.slice Ao70 t438.length co70, .slice Ao75 t441.length co75], .agg #[.slice Ao76 t444.length co76, .slice Ao80 t447.length co80]] (by rfl) rfl rfl Mp_ ?_
               with_reducible refine (spec_Together.calls k1 _ _ t438 _ _ t441 _ _ t444 _ _ t447 t477 t480 _ ?side1 ?side2 ?side3 ?side4 ?side5 ?side6 ?side7 ?side8 A54.out).mono ?_
               (case side1 => exact Cq_ (Kd.R_reads' HO440.out).2.2)
               (case side2 => exact (Kd.R_reads' HO440.out).2.1)
               (case side3 => exact Cq_ (Kd.R_reads' HO443.out).2.2)
               (case side4 => exact (Kd.R_reads' HO443.out).2.1)
               (case side5 => exact Cq_ (Kd.R_reads' HO446.out).2.2)
               (case side6 => exact (Kd.R_reads' HO446.out).2.1)
               (case side7 => exact Cq_ (Kd.R_reads' HO449.out).2.2)
               (case side8 => exact (Kd.R_reads' HO449.out).2.1)
               rintro e w115 ⟨v478, v481, rfl, ho0, ho1, hb⟩
               refine ⟨_, rfl, ?_⟩
               have HO479 := Aside0.mk (Kd.R_lower (Kd.R_new' (Kd.R_new' (Kd.R_new' (Kd.R_new' (Kd.R_new' (Kd.R_new' (Kd.R_new' ho0 (Kd.R_lt (Rq_ HO_418000))) (Kd.R_lt (Rq_ HO_431000))) (Kd.R_lt (Rq_ HO440))) (Kd.R_lt (Rq_ HO446))) (Kd.R_lt (Rq_ HO454))) (Kd.R_lt (Rq_ HO461))) (Kd.R_lt (Rq_ HO468))) (below_size (Hf_ HB))); have HO482 := Aside0.mk (Kd.R_lower (Kd.R_new' (Kd.R_new' (Kd.R_new' (Kd.R_new' (Kd.R_new' (Kd.R_new' (Kd.R_new' (Kd.R_new' ho1 (Kd.R_lt (Rq_ HO_4))) (Kd.R_lt (Rq_ HO_418001))) (Kd.R_lt (Rq_ HO_431001))) (Kd.R_lt (Rq_ HO443))) (Kd.R_lt (Rq_ HO449))) (Kd.R_lt (Rq_ HO457))) (Kd.R_lt (Rq_ HO464))) (Kd.R_lt (Rq_ HO471))) (below_size (Hf_ HB))); replace HO_4 := Rl_ HO_4 ho1 hb; replace HO_418000 := Rl_ HO_418000 ho0 hb; replace HO_418001 := Rl_ HO_418001 ho1 hb; replace HO_431000 := Rl_ HO_431000 ho0 hb; replace HO_431001 := Rl_ HO_431001 ho1 hb; replace HO440 := Rl_ HO440 ho0 hb; replace HO443 := Rl_ HO443 ho1 hb; replace HO446 := Rl_ HO446 ho0 hb; replace HO449 := Rl_ HO449 ho1 hb; replace HO454 := Rl_ HO454 ho0 hb; replace HO457 := Rl_ HO457 ho1 hb; replace HO461 := Rl_ HO461 ho0 hb; replace HO464 := Rl_ HO464 ho1 hb; replace HO468 := Rl_ HO468 ho0 hb; replace HO471 := Rl_ HO471 ho1 hb; replace BK417 := Bb_ BK417 hb; replace BK430 := Bb_ BK430 hb; replace BK450 := Bb_ BK450 hb; replace BK451 := Bb_ BK451 hb; replace BK458 := Bb_ BK458 hb; replace BK465 := Bb_ BK465 hb; replace BK474 := Bb_ BK474 hb; replace HB := Hs_ HB hb
               (try clear hb)
               (try clear hb2)
               (try clear hk)
               (try clear hi)
               (try clear ho0)
               (try clear ho1)
               obtain ⟨Ao116, co116, eo116⟩ := Kd.R_slice HO479.out
               (first | subst eo116 | (injection eo116 with f1_ f2_ f3_; have f4_ := f1_.symm; have f5_ := f3_.symm; clear f1_ f2_ f3_; subst f4_; subst f5_))
               obtain ⟨Ao117, co117, eo117⟩ := Kd.R_slice HO482.out
               (first | subst eo117 | (injection eo117 with f1_ f2_ f3_; have f4_ := f1_.symm; have f5_ := f3_.symm; clear f1_ f2_ f3_; subst f4_; subst f5_))
               refine hK.out _ _ ⟨(blk_cell BK417.out 0).trans rfl, (blk_cell BK417.out 1).trans rfl, (blk_cell BK430.out 0).trans rfl, (blk_cell BK430.out 1).trans rfl, (blk_cell BK458.out 0).trans rfl, (blk_cell BK458.out 1).trans rfl, (blk_cell BK450.out 0).trans rfl, (blk_cell BK450.out 1).trans rfl, (blk_cell BK451.out 0).trans rfl, (blk_cell BK451.out 1).trans rfl, (blk_cell BK465.out 0).trans rfl, (blk_cell BK465.out 1).trans rfl, (blk_cell BK474.out 0).trans rfl, (blk_cell BK474.out 1).trans rfl⟩ (fun hHeld => ?_)
               clear hK K
               refine norm_ (a' := ?_) ?_ ?_
               rotate_left
               ·show Act.put _ (some 96) _ = _
                simp only [Act.put, List.setIfInBounds_toArray, List.set_cons_zero, List.set_cons_succ, i64_w, i32_w]
                rfl
               refine one_ (i := 11) (N := some 97) #[true, true, true, true, true, true, true, true, true, true, true, true, false, false, false, false, false, false, false, false, false, false, false, false, false, false, false, false, false, false, false, false, false, false, false, false, false] rfl rfl (one_of HT_.out (by kernel_rfl)) (by decide) (fun K hK => ?_)
               refine goes_ Try.func43 (by kernel_rfl) rfl #[.agg #[.slice Ao83 t452.length co83, .slice Ao89 t455.length co89], .agg #[.slice Ao116 t477.length co116, .slice Ao117 t480.length co117]] (by rfl) rfl rfl Mp_ ?_
               with_reducible refine (laws_sameEnv.calls k1 _ _ t452 _ _ t455 _ _ t477 _ _ t480 true _ ?side1 ?side2 ?side3 ?side4 ?side5 ?side6 ?side7 ?side8 A55.out).mono ?_
               (case side1 => exact Cq_ (Kd.R_reads' HO454.out).2.2)
               (case side2 => exact (Kd.R_reads' HO454.out).2.1)
               (case side3 => exact Cq_ (Kd.R_reads' HO457.out).2.2)
               (case side4 => exact (Kd.R_reads' HO457.out).2.1)
               (case side5 => exact Cq_ (Kd.R_reads' HO479.out).2.2)
               (case side6 => exact (Kd.R_reads' HO479.out).2.1)
               (case side7 => exact Cq_ (Kd.R_reads' HO482.out).2.2)
               (case side8 => exact (Kd.R_reads' HO482.out).2.1)
               rintro e w118 ⟨rfl, hb⟩
               refine ⟨_, rfl, ?_⟩
               replace HO_4 := Rb_ HO_4 hb; replace HO_418000 := Rb_ HO_418000 hb; replace HO_418001 := Rb_ HO_418001 hb; replace HO_431000 := Rb_ HO_431000 hb; replace HO_431001 := Rb_ HO_431001 hb; replace HO440 := Rb_ HO440 hb; replace HO443 := Rb_ HO443 hb; replace HO446 := Rb_ HO446 hb; replace HO449 := Rb_ HO449 hb; replace HO454 := Rb_ HO454 hb; replace HO457 := Rb_ HO457 hb; replace HO461 := Rb_ HO461 hb; replace HO464 := Rb_ HO464 hb; replace HO468 := Rb_ HO468 hb; replace HO471 := Rb_ HO471 hb; replace HO479 := Rb_ HO479 hb; replace HO482 := Rb_ HO482 hb; replace BK417 := Bb_ BK417 hb; replace BK430 := Bb_ BK430 hb; replace BK450 := Bb_ BK450 hb; replace BK451 := Bb_ BK451 hb; replace BK458 := Bb_ BK458 hb; replace BK465 := Bb_ BK465 hb; replace BK474 := Bb_ BK474 hb; replace HB := Hs_ HB hb
               (try clear hb)
               (try clear hb2)
               (try clear hk)
               (try clear hi)
               refine hK.out _ _ ⟨(blk_cell BK417.out 0).trans rfl, (blk_cell BK417.out 1).trans rfl, (blk_cell BK430.out 0).trans rfl, (blk_cell BK430.out 1).trans rfl, (blk_cell BK458.out 0).trans rfl, (blk_cell BK458.out 1).trans rfl, (blk_cell BK450.out 0).trans rfl, (blk_cell BK450.out 1).trans rfl, (blk_cell BK451.out 0).trans rfl, (blk_cell BK451.out 1).trans rfl, (blk_cell BK465.out 0).trans rfl, (blk_cell BK465.out 1).trans rfl, (blk_cell BK474.out 0).trans rfl, (blk_cell BK474.out 1).trans rfl⟩ (fun hHeld => ?_)
               clear hK K
               refine norm_ (a' := ?_) ?_ ?_
               rotate_left
               ·show Act.put _ (some 97) _ = _
                simp only [Act.put, List.setIfInBounds_toArray, List.set_cons_zero, List.set_cons_succ, i64_w, i32_w]
                rfl
               refine pure_ (i := 12) (N := some 98) (v := ?_) (a' := ?_) #[true, true, true, true, true, true, true, true, true, true, true, true, true, false, false, false, false, false, false, false, false, false, false, false, false, false, false, false, false, false, false, false, false, false, false, false, false] rfl rfl (any_of HT_.out (by kernel_rfl)) (fun _ _ _ h => h) (Or.inl ⟨by rfl, ?_⟩) ?_ ?_
               rotate_left
               ·intro w'
                go_simp
                with_reducible rfl
               rotate_left
               ·simp only [Act.put, List.setIfInBounds_toArray, List.set_cons_zero, List.set_cons_succ, i64_w, i32_w]
                rfl
               refine pure_ (i := 13) (N := some 99) (v := ?_) (a' := ?_) #[true, true, true, true, true, true, true, true, true, true, true, true, true, true, false, false, false, false, false, false, false, false, false, false, false, false, false, false, false, false, false, false, false, false, false, false, false] rfl rfl (any_of HT_.out (by kernel_rfl)) (fun _ _ _ h => h) (Or.inl ⟨by rfl, ?_⟩) ?_ ?_
               rotate_left
               ·intro w'
                go_simp
                with_reducible rfl
               rotate_left
               ·simp only [Act.put, List.setIfInBounds_toArray, List.set_cons_zero, List.set_cons_succ, i64_w, i32_w]
                rfl
               refine take_ (i := 14) (N := some 100) (v := ?_) (a' := ?_) #[true, true, true, true, true, true, true, true, true, true, true, true, true, true, true, false, false, false, false, false, false, false, false, false, false, false, false, false, false, false, false, false, false, false, false, false, false] rfl rfl (take_ofW HT_.out HW_.out (by kernel_rfl)) (fun _ _ _ h => h) (Or.inl ⟨by rfl, ?_⟩) hHeld ?_ ?_
               rotate_left
               ·rintro w' ⟨s0, s1, s2, s3, s4, s5, s6, s7, s8, s9, s10, s11, s12, s13⟩
                go_simp
                with_reducible rfl
               rotate_left
               ·simp only [Act.put, List.setIfInBounds_toArray, List.set_cons_zero, List.set_cons_succ, i64_w, i32_w]
                rfl
               refine take_ (i := 16) (N := some 102) (v := ?_) (a' := ?_) #[true, true, true, true, true, true, true, true, true, true, true, true, true, true, true, false, true, false, false, false, false, false, false, false, false, false, false, false, false, false, false, false, false, false, false, false, false] rfl rfl (take_ofW HT_.out HW_.out (by kernel_rfl)) (fun _ _ _ h => h) (Or.inl ⟨by rfl, ?_⟩) hHeld ?_ ?_
               rotate_left
               ·rintro w' ⟨s0, s1, s2, s3, s4, s5, s6, s7, s8, s9, s10, s11, s12, s13⟩
                go_simp
                with_reducible rfl
               rotate_left
               ·simp only [Act.put, List.setIfInBounds_toArray, List.set_cons_zero, List.set_cons_succ, i64_w, i32_w]
                rfl
               refine one_ (i := 15) (N := some 101) #[true, true, true, true, true, true, true, true, true, true, true, true, true, true, true, true, true, false, false, false, false, false, false, false, false, false, false, false, false, false, false, false, false, false, false, false, false] rfl rfl (one_of HT_.out (by kernel_rfl)) (by decide) (fun K hK => ?_)
               refine goes_ Try.func16 (by kernel_rfl) rfl #[.agg #[.slice Ao92 t459.length co92, .slice Ao99 t462.length co99]] (by rfl) rfl rfl Mp_ ?_
               with_reducible refine (impl_EnvOk.calls k1 _ _ t459 _ _ t462 t484 _ ?side1 ?side2 ?side3 ?side4 A57.out).mono ?_
               (case side1 => exact Cq_ (Kd.R_reads' HO461.out).2.2)
               (case side2 => exact (Kd.R_reads' HO461.out).2.1)
               (case side3 => exact Cq_ (Kd.R_reads' HO464.out).2.2)
               (case side4 => exact (Kd.R_reads' HO464.out).2.1)
               rintro e w119 ⟨rfl, hb⟩
               refine ⟨_, rfl, ?_⟩
               replace HO_4 := Rb_ HO_4 hb; replace HO_418000 := Rb_ HO_418000 hb; replace HO_418001 := Rb_ HO_418001 hb; replace HO_431000 := Rb_ HO_431000 hb; replace HO_431001 := Rb_ HO_431001 hb; replace HO440 := Rb_ HO440 hb; replace HO443 := Rb_ HO443 hb; replace HO446 := Rb_ HO446 hb; replace HO449 := Rb_ HO449 hb; replace HO454 := Rb_ HO454 hb; replace HO457 := Rb_ HO457 hb; replace HO461 := Rb_ HO461 hb; replace HO464 := Rb_ HO464 hb; replace HO468 := Rb_ HO468 hb; replace HO471 := Rb_ HO471 hb; replace HO479 := Rb_ HO479 hb; replace HO482 := Rb_ HO482 hb; replace BK417 := Bb_ BK417 hb; replace BK430 := Bb_ BK430 hb; replace BK450 := Bb_ BK450 hb; replace BK451 := Bb_ BK451 hb; replace BK458 := Bb_ BK458 hb; replace BK465 := Bb_ BK465 hb; replace BK474 := Bb_ BK474 hb; replace HB := Hs_ HB hb
               (try clear hb)
               (try clear hb2)
               (try clear hk)
               (try clear hi)
               refine hK.out _ _ ⟨(blk_cell BK417.out 0).trans rfl, (blk_cell BK417.out 1).trans rfl, (blk_cell BK430.out 0).trans rfl, (blk_cell BK430.out 1).trans rfl, (blk_cell BK458.out 0).trans rfl, (blk_cell BK458.out 1).trans rfl, (blk_cell BK450.out 0).trans rfl, (blk_cell BK450.out 1).trans rfl, (blk_cell BK451.out 0).trans rfl, (blk_cell BK451.out 1).trans rfl, (blk_cell BK465.out 0).trans rfl, (blk_cell BK465.out 1).trans rfl, (blk_cell BK474.out 0).trans rfl, (blk_cell BK474.out 1).trans rfl⟩ (fun hHeld => ?_)
               clear hK K
               refine norm_ (a' := ?_) ?_ ?_
               rotate_left
               ·show Act.put _ (some 101) _ = _
                simp only [Act.put, List.setIfInBounds_toArray, List.set_cons_zero, List.set_cons_succ, i64_w, i32_w]
                rfl
               refine one_ (i := 17) (N := some 103) #[true, true, true, true, true, true, true, true, true, true, true, true, true, true, true, true, true, true, false, false, false, false, false, false, false, false, false, false, false, false, false, false, false, false, false, false, false] rfl rfl (one_of HT_.out (by kernel_rfl)) (by decide) (fun K hK => ?_)
               refine goes_ Try.func14 (by kernel_rfl) rfl #[.agg #[.slice Ao92 t459.length co92, .slice Ao99 t462.length co99]] (by rfl) rfl rfl Mp_ ?_
               with_reducible refine (spec_EnvOk.calls k1 _ _ t459 _ _ t462 t485 _ ?side1 ?side2 ?side3 ?side4 A58.out).mono ?_
               (case side1 => exact Cq_ (Kd.R_reads' HO461.out).2.2)
               (case side2 => exact (Kd.R_reads' HO461.out).2.1)
               (case side3 => exact Cq_ (Kd.R_reads' HO464.out).2.2)
               (case side4 => exact (Kd.R_reads' HO464.out).2.1)
               rintro e w120 ⟨rfl, hb⟩
               refine ⟨_, rfl, ?_⟩
               replace HO_4 := Rb_ HO_4 hb; replace HO_418000 := Rb_ HO_418000 hb; replace HO_418001 := Rb_ HO_418001 hb; replace HO_431000 := Rb_ HO_431000 hb; replace HO_431001 := Rb_ HO_431001 hb; replace HO440 := Rb_ HO440 hb; replace HO443 := Rb_ HO443 hb; replace HO446 := Rb_ HO446 hb; replace HO449 := Rb_ HO449 hb; replace HO454 := Rb_ HO454 hb; replace HO457 := Rb_ HO457 hb; replace HO461 := Rb_ HO461 hb; replace HO464 := Rb_ HO464 hb; replace HO468 := Rb_ HO468 hb; replace HO471 := Rb_ HO471 hb; replace HO479 := Rb_ HO479 hb; replace HO482 := Rb_ HO482 hb; replace BK417 := Bb_ BK417 hb; replace BK430 := Bb_ BK430 hb; replace BK450 := Bb_ BK450 hb; replace BK451 := Bb_ BK451 hb; replace BK458 := Bb_ BK458 hb; replace BK465 := Bb_ BK465 hb; replace BK474 := Bb_ BK474 hb; replace HB := Hs_ HB hb
               (try clear hb)
               (try clear hb2)
               (try clear hk)
               (try clear hi)
               refine hK.out _ _ ⟨(blk_cell BK417.out 0).trans rfl, (blk_cell BK417.out 1).trans rfl, (blk_cell BK430.out 0).trans rfl, (blk_cell BK430.out 1).trans rfl, (blk_cell BK458.out 0).trans rfl, (blk_cell BK458.out 1).trans rfl, (blk_cell BK450.out 0).trans rfl, (blk_cell BK450.out 1).trans rfl, (blk_cell BK451.out 0).trans rfl, (blk_cell BK451.out 1).trans rfl, (blk_cell BK465.out 0).trans rfl, (blk_cell BK465.out 1).trans rfl, (blk_cell BK474.out 0).trans rfl, (blk_cell BK474.out 1).trans rfl⟩ (fun hHeld => ?_)
               clear hK K
               refine norm_ (a' := ?_) ?_ ?_
               rotate_left
               ·show Act.put _ (some 103) _ = _
                simp only [Act.put, List.setIfInBounds_toArray, List.set_cons_zero, List.set_cons_succ, i64_w, i32_w]
                rfl
               refine pure_ (i := 18) (N := some 104) (v := ?_) (a' := ?_) #[true, true, true, true, true, true, true, true, true, true, true, true, true, true, true, true, true, true, true, false, false, false, false, false, false, false, false, false, false, false, false, false, false, false, false, false, false] rfl rfl (any_of HT_.out (by kernel_rfl)) (fun _ _ _ h => h) (Or.inl ⟨by rfl, ?_⟩) ?_ ?_
               rotate_left
               ·intro w'
                go_simp
                with_reducible rfl
               rotate_left
               ·simp only [Act.put, List.setIfInBounds_toArray, List.set_cons_zero, List.set_cons_succ, i64_w, i32_w]
                rfl
               refine pure_ (i := 19) (N := some 105) (v := ?_) (a' := ?_) #[true, true, true, true, true, true, true, true, true, true, true, true, true, true, true, true, true, true, true, true, false, false, false, false, false, false, false, false, false, false, false, false, false, false, false, false, false] rfl rfl (any_of HT_.out (by kernel_rfl)) (fun _ _ _ h => h) (Or.inl ⟨by rfl, ?_⟩) ?_ ?_
               rotate_left
               ·intro w'
                go_simp
                with_reducible rfl
               rotate_left
               ·simp only [Act.put, List.setIfInBounds_toArray, List.set_cons_zero, List.set_cons_succ, i64_w, i32_w]
                rfl
               refine pure_ (i := 20) (N := some 106) (v := ?_) (a' := ?_) #[true, true, true, true, true, true, true, true, true, true, true, true, true, true, true, true, true, true, true, true, true, false, false, false, false, false, false, false, false, false, false, false, false, false, false, false, false] rfl rfl (any_of HT_.out (by kernel_rfl)) (fun _ _ _ h => h) (Or.inl ⟨by rfl, ?_⟩) ?_ ?_
               rotate_left
               ·intro w'
                go_simp
                with_reducible rfl
               rotate_left
               ·simp only [Act.put, List.setIfInBounds_toArray, List.set_cons_zero, List.set_cons_succ, i64_w, i32_w]
                rfl
               refine pure_ (i := 22) (N := some 108) (v := ?_) (a' := ?_) #[true, true, true, true, true, true, true, true, true, true, true, true, true, true, true, true, true, true, true, true, true, false, true, false, false, false, false, false, false, false, false, false, false, false, false, false, false] rfl rfl (any_of HT_.out (by kernel_rfl)) (fun _ _ _ h => h) (Or.inl ⟨by rfl, ?_⟩) ?_ ?_
               rotate_left
               ·intro w'
                go_simp
                with_reducible rfl
               rotate_left
               ·simp only [Act.put, List.setIfInBounds_toArray, List.set_cons_zero, List.set_cons_succ, i64_w, i32_w]
                rfl
               refine pure_ (i := 23) (N := some 109) (v := ?_) (a' := ?_) #[true, true, true, true, true, true, true, true, true, true, true, true, true, true, true, true, true, true, true, true, true, false, true, true, false, false, false, false, false, false, false, false, false, false, false, false, false] rfl rfl (any_of HT_.out (by kernel_rfl)) (fun _ _ _ h => h) (Or.inl ⟨by rfl, ?_⟩) ?_ ?_
               rotate_left
               ·intro w'
                go_simp
                with_reducible rfl
               rotate_left
               ·simp only [Act.put, List.setIfInBounds_toArray, List.set_cons_zero, List.set_cons_succ, i64_w, i32_w]
                rfl
               refine pure_ (i := 26) (N := some 112) (v := ?_) (a' := ?_) #[true, true, true, true, true, true, true, true, true, true, true, true, true, true, true, true, true, true, true, true, true, false, true, true, false, false, true, false, false, false, false, false, false, false, false, false, false] rfl rfl (any_of HT_.out (by kernel_rfl)) (fun _ _ _ h => h) (Or.inl ⟨by rfl, ?_⟩) ?_ ?_
               rotate_left
               ·intro w'
                go_simp
                with_reducible rfl
               rotate_left
               ·simp only [Act.put, List.setIfInBounds_toArray, List.set_cons_zero, List.set_cons_succ, i64_w, i32_w]
                rfl
               refine pure_ (i := 27) (N := some 113) (v := ?_) (a' := ?_) #[true, true, true, true, true, true, true, true, true, true, true, true, true, true, true, true, true, true, true, true, true, false, true, true, false, false, true, true, false, false, false, false, false, false, false, false, false] rfl rfl (any_of HT_.out (by kernel_rfl)) (fun _ _ _ h => h) (Or.inl ⟨by rfl, ?_⟩) ?_ ?_
               rotate_left
               ·intro w'
                go_simp
                with_reducible rfl
               rotate_left
               ·simp only [Act.put, List.setIfInBounds_toArray, List.set_cons_zero, List.set_cons_succ, i64_w, i32_w]
                rfl
               refine take_ (i := 21) (N := some 107) (v := ?_) (a' := ?_) #[true, true, true, true, true, true, true, true, true, true, true, true, true, true, true, true, true, true, true, true, true, true, true, true, false, false, true, true, false, false, false, false, false, false, false, false, false] rfl rfl (take_ofW HT_.out HW_.out (by kernel_rfl)) (fun _ _ _ h => h) (Or.inl ⟨by rfl, ?_⟩) hHeld ?_ ?_
               rotate_left
               ·rintro w' ⟨s0, s1, s2, s3, s4, s5, s6, s7, s8, s9, s10, s11, s12, s13⟩
                go_simp
                with_reducible rfl
               rotate_left
               ·simp only [Act.put, List.setIfInBounds_toArray, List.set_cons_zero, List.set_cons_succ, i64_w, i32_w]
                rfl
               refine take_ (i := 25) (N := some 111) (v := ?_) (a' := ?_) #[true, true, true, true, true, true, true, true, true, true, true, true, true, true, true, true, true, true, true, true, true, true, true, true, false, true, true, true, false, false, false, false, false, false, false, false, false] rfl rfl (take_ofW HT_.out HW_.out (by kernel_rfl)) (fun _ _ _ h => h) (Or.inl ⟨by rfl, ?_⟩) hHeld ?_ ?_
               rotate_left
               ·rintro w' ⟨s0, s1, s2, s3, s4, s5, s6, s7, s8, s9, s10, s11, s12, s13⟩
                go_simp
                with_reducible rfl
               rotate_left
               ·simp only [Act.put, List.setIfInBounds_toArray, List.set_cons_zero, List.set_cons_succ, i64_w, i32_w]
                rfl
               refine one_ (i := 24) (N := some 110) #[true, true, true, true, true, true, true, true, true, true, true, true, true, true, true, true, true, true, true, true, true, true, true, true, true, true, true, true, false, false, false, false, false, false, false, false, false] rfl rfl (one_of HT_.out (by kernel_rfl)) (by decide) (fun K hK => ?_)
               refine goes_ Try.func19 (by kernel_rfl) rfl #[.agg #[.slice Ao102 t466.length co102, .slice Ao110 t469.length co110], .string t472, .int .i64 t473] (by rfl) rfl rfl Mp_ ?_
               with_reducible refine (impl_PutIn.calls k1 _ _ t466 _ _ t469 t472 t473 t486 t489 _ ?side1 ?side2 ?side3 ?side4 A60.out).mono ?_
               (case side1 => exact Cq_ (Kd.R_reads' HO468.out).2.2)
               (case side2 => exact (Kd.R_reads' HO468.out).2.1)
               (case side3 => exact Cq_ (Kd.R_reads' HO471.out).2.2)
               (case side4 => exact (Kd.R_reads' HO471.out).2.1)
               rintro e w121 ⟨v487, v490, rfl, ho0, ho1, hb⟩
               refine ⟨_, rfl, ?_⟩
               have HO488 := Aside0.mk (Kd.R_lower (Kd.R_new' (Kd.R_new' (Kd.R_new' (Kd.R_new' (Kd.R_new' (Kd.R_new' (Kd.R_new' (Kd.R_new' ho0 (Kd.R_lt (Rq_ HO_418000))) (Kd.R_lt (Rq_ HO_431000))) (Kd.R_lt (Rq_ HO440))) (Kd.R_lt (Rq_ HO446))) (Kd.R_lt (Rq_ HO454))) (Kd.R_lt (Rq_ HO461))) (Kd.R_lt (Rq_ HO468))) (Kd.R_lt (Rq_ HO479))) (below_size (Hf_ HB))); have HO491 := Aside0.mk (Kd.R_lower (Kd.R_new' (Kd.R_new' (Kd.R_new' (Kd.R_new' (Kd.R_new' (Kd.R_new' (Kd.R_new' (Kd.R_new' (Kd.R_new' ho1 (Kd.R_lt (Rq_ HO_4))) (Kd.R_lt (Rq_ HO_418001))) (Kd.R_lt (Rq_ HO_431001))) (Kd.R_lt (Rq_ HO443))) (Kd.R_lt (Rq_ HO449))) (Kd.R_lt (Rq_ HO457))) (Kd.R_lt (Rq_ HO464))) (Kd.R_lt (Rq_ HO471))) (Kd.R_lt (Rq_ HO482))) (below_size (Hf_ HB))); replace HO_4 := Rl_ HO_4 ho1 hb; replace HO_418000 := Rl_ HO_418000 ho0 hb; replace HO_418001 := Rl_ HO_418001 ho1 hb; replace HO_431000 := Rl_ HO_431000 ho0 hb; replace HO_431001 := Rl_ HO_431001 ho1 hb; replace HO440 := Rl_ HO440 ho0 hb; replace HO443 := Rl_ HO443 ho1 hb; replace HO446 := Rl_ HO446 ho0 hb; replace HO449 := Rl_ HO449 ho1 hb; replace HO454 := Rl_ HO454 ho0 hb; replace HO457 := Rl_ HO457 ho1 hb; replace HO461 := Rl_ HO461 ho0 hb; replace HO464 := Rl_ HO464 ho1 hb; replace HO468 := Rl_ HO468 ho0 hb; replace HO471 := Rl_ HO471 ho1 hb; replace HO479 := Rl_ HO479 ho0 hb; replace HO482 := Rl_ HO482 ho1 hb; replace BK417 := Bb_ BK417 hb; replace BK430 := Bb_ BK430 hb; replace BK450 := Bb_ BK450 hb; replace BK451 := Bb_ BK451 hb; replace BK458 := Bb_ BK458 hb; replace BK465 := Bb_ BK465 hb; replace BK474 := Bb_ BK474 hb; replace HB := Hs_ HB hb
               (try clear hb)
               (try clear hb2)
               (try clear hk)
               (try clear hi)
               (try clear ho0)
               (try clear ho1)
               refine hK.out _ _ ⟨(blk_cell BK417.out 0).trans rfl, (blk_cell BK417.out 1).trans rfl, (blk_cell BK430.out 0).trans rfl, (blk_cell BK430.out 1).trans rfl, (blk_cell BK458.out 0).trans rfl, (blk_cell BK458.out 1).trans rfl, (blk_cell BK450.out 0).trans rfl, (blk_cell BK450.out 1).trans rfl, (blk_cell BK451.out 0).trans rfl, (blk_cell BK451.out 1).trans rfl, (blk_cell BK465.out 0).trans rfl, (blk_cell BK465.out 1).trans rfl, (blk_cell BK474.out 0).trans rfl, (blk_cell BK474.out 1).trans rfl⟩ (fun hHeld => ?_)
               clear hK K
               refine norm_ (a' := ?_) ?_ ?_
               rotate_left
               ·show Act.put _ (some 110) _ = _
                simp only [Act.put, List.setIfInBounds_toArray, List.set_cons_zero, List.set_cons_succ, i64_w, i32_w]
                rfl
               refine one_ (i := 28) (N := some 114) #[true, true, true, true, true, true, true, true, true, true, true, true, true, true, true, true, true, true, true, true, true, true, true, true, true, true, true, true, true, false, false, false, false, false, false, false, false] rfl rfl (one_of HT_.out (by kernel_rfl)) (by decide) (fun K hK => ?_)
               refine goes_ Try.func18 (by kernel_rfl) rfl #[.agg #[.slice Ao102 t466.length co102, .slice Ao110 t469.length co110], .string t472, .int .i64 t473] (by rfl) rfl rfl Mp_ ?_
               with_reducible refine (spec_PutIn.calls k1 _ _ t466 _ _ t469 t472 t473 t492 t495 _ ?side1 ?side2 ?side3 ?side4 A61.out).mono ?_
               (case side1 => exact Cq_ (Kd.R_reads' HO468.out).2.2)
               (case side2 => exact (Kd.R_reads' HO468.out).2.1)
               (case side3 => exact Cq_ (Kd.R_reads' HO471.out).2.2)
               (case side4 => exact (Kd.R_reads' HO471.out).2.1)
               rintro e w122 ⟨v493, v496, rfl, ho0, ho1, hb⟩
               refine ⟨_, rfl, ?_⟩
               have HO494 := Aside0.mk (Kd.R_lower (Kd.R_new' (Kd.R_new' (Kd.R_new' (Kd.R_new' (Kd.R_new' (Kd.R_new' (Kd.R_new' (Kd.R_new' (Kd.R_new' ho0 (Kd.R_lt (Rq_ HO_418000))) (Kd.R_lt (Rq_ HO_431000))) (Kd.R_lt (Rq_ HO440))) (Kd.R_lt (Rq_ HO446))) (Kd.R_lt (Rq_ HO454))) (Kd.R_lt (Rq_ HO461))) (Kd.R_lt (Rq_ HO468))) (Kd.R_lt (Rq_ HO479))) (Kd.R_lt (Rq_ HO488))) (below_size (Hf_ HB))); have HO497 := Aside0.mk (Kd.R_lower (Kd.R_new' (Kd.R_new' (Kd.R_new' (Kd.R_new' (Kd.R_new' (Kd.R_new' (Kd.R_new' (Kd.R_new' (Kd.R_new' (Kd.R_new' ho1 (Kd.R_lt (Rq_ HO_4))) (Kd.R_lt (Rq_ HO_418001))) (Kd.R_lt (Rq_ HO_431001))) (Kd.R_lt (Rq_ HO443))) (Kd.R_lt (Rq_ HO449))) (Kd.R_lt (Rq_ HO457))) (Kd.R_lt (Rq_ HO464))) (Kd.R_lt (Rq_ HO471))) (Kd.R_lt (Rq_ HO482))) (Kd.R_lt (Rq_ HO491))) (below_size (Hf_ HB))); replace HO_4 := Rl_ HO_4 ho1 hb; replace HO_418000 := Rl_ HO_418000 ho0 hb; replace HO_418001 := Rl_ HO_418001 ho1 hb; replace HO_431000 := Rl_ HO_431000 ho0 hb; replace HO_431001 := Rl_ HO_431001 ho1 hb; replace HO440 := Rl_ HO440 ho0 hb; replace HO443 := Rl_ HO443 ho1 hb; replace HO446 := Rl_ HO446 ho0 hb; replace HO449 := Rl_ HO449 ho1 hb; replace HO454 := Rl_ HO454 ho0 hb; replace HO457 := Rl_ HO457 ho1 hb; replace HO461 := Rl_ HO461 ho0 hb; replace HO464 := Rl_ HO464 ho1 hb; replace HO468 := Rl_ HO468 ho0 hb; replace HO471 := Rl_ HO471 ho1 hb; replace HO479 := Rl_ HO479 ho0 hb; replace HO482 := Rl_ HO482 ho1 hb; replace HO488 := Rl_ HO488 ho0 hb; replace HO491 := Rl_ HO491 ho1 hb; replace BK417 := Bb_ BK417 hb; replace BK430 := Bb_ BK430 hb; replace BK450 := Bb_ BK450 hb; replace BK451 := Bb_ BK451 hb; replace BK458 := Bb_ BK458 hb; replace BK465 := Bb_ BK465 hb; replace BK474 := Bb_ BK474 hb; replace HB := Hs_ HB hb
               (try clear hb)
               (try clear hb2)
               (try clear hk)
               (try clear hi)
               (try clear ho0)
               (try clear ho1)
               obtain ⟨Ao123, co123, eo123⟩ := Kd.R_slice HO488.out
               (first | subst eo123 | (injection eo123 with f1_ f2_ f3_; have f4_ := f1_.symm; have f5_ := f3_.symm; clear f1_ f2_ f3_; subst f4_; subst f5_))
               obtain ⟨Ao124, co124, eo124⟩ := Kd.R_slice HO491.out
               (first | subst eo124 | (injection eo124 with f1_ f2_ f3_; have f4_ := f1_.symm; have f5_ := f3_.symm; clear f1_ f2_ f3_; subst f4_; subst f5_))
               obtain ⟨Ao125, co125, eo125⟩ := Kd.R_slice HO494.out
               (first | subst eo125 | (injection eo125 with f1_ f2_ f3_; have f4_ := f1_.symm; have f5_ := f3_.symm; clear f1_ f2_ f3_; subst f4_; subst f5_))
               obtain ⟨Ao126, co126, eo126⟩ := Kd.R_slice HO497.out
               (first | subst eo126 | (injection eo126 with f1_ f2_ f3_; have f4_ := f1_.symm; have f5_ := f3_.symm; clear f1_ f2_ f3_; subst f4_; subst f5_))
               refine hK.out _ _ ⟨(blk_cell BK417.out 0).trans rfl, (blk_cell BK417.out 1).trans rfl, (blk_cell BK430.out 0).trans rfl, (blk_cell BK430.out 1).trans rfl, (blk_cell BK458.out 0).trans rfl, (blk_cell BK458.out 1).trans rfl, (blk_cell BK450.out 0).trans rfl, (blk_cell BK450.out 1).trans rfl, (blk_cell BK451.out 0).trans rfl, (blk_cell BK451.out 1).trans rfl, (blk_cell BK465.out 0).trans rfl, (blk_cell BK465.out 1).trans rfl, (blk_cell BK474.out 0).trans rfl, (blk_cell BK474.out 1).trans rfl⟩ (fun hHeld => ?_)
               clear hK K
               refine norm_ (a' := ?_) ?_ ?_
               rotate_left
               ·show Act.put _ (some 114) _ = _
                simp only [Act.put, List.setIfInBounds_toArray, List.set_cons_zero, List.set_cons_succ, i64_w, i32_w]
                rfl
               refine one_ (i := 29) (N := some 115) #[true, true, true, true, true, true, true, true, true, true, true, true, true, true, true, true, true, true, true, true, true, true, true, true, true, true, true, true, true, true, false, false, false, false, false, false, false] rfl rfl (one_of HT_.out (by kernel_rfl)) (by decide) (fun K hK => ?_)
               refine goes_ Try.func43 (by kernel_rfl) rfl #[.agg #[.slice Ao123 t486.length co123, .slice Ao124 t489.length co124], .agg #[.slice Ao125 t492.length co125, .slice Ao126 t495.length co126]] (by rfl) rfl rfl Mp_ ?_
               with_reducible refine (laws_sameEnv.calls k1 _ _ t486 _ _ t489 _ _ t492 _ _ t495 true _ ?side1 ?side2 ?side3 ?side4 ?side5 ?side6 ?side7 ?side8 A62.out).mono ?_
               (case side1 => exact Cq_ (Kd.R_reads' HO488.out).2.2)
               (case side2 => exact (Kd.R_reads' HO488.out).2.1)
               (case side3 => exact Cq_ (Kd.R_reads' HO491.out).2.2)
               (case side4 => exact (Kd.R_reads' HO491.out).2.1)
               (case side5 => exact Cq_ (Kd.R_reads' HO494.out).2.2)
               (case side6 => exact (Kd.R_reads' HO494.out).2.1)
               (case side7 => exact Cq_ (Kd.R_reads' HO497.out).2.2)
               (case side8 => exact (Kd.R_reads' HO497.out).2.1)
               rintro e w127 ⟨rfl, hb⟩
               refine ⟨_, rfl, ?_⟩
               replace HO_4 := Rb_ HO_4 hb; replace HO_418000 := Rb_ HO_418000 hb; replace HO_418001 := Rb_ HO_418001 hb; replace HO_431000 := Rb_ HO_431000 hb; replace HO_431001 := Rb_ HO_431001 hb; replace HO440 := Rb_ HO440 hb; replace HO443 := Rb_ HO443 hb; replace HO446 := Rb_ HO446 hb; replace HO449 := Rb_ HO449 hb; replace HO454 := Rb_ HO454 hb; replace HO457 := Rb_ HO457 hb; replace HO461 := Rb_ HO461 hb; replace HO464 := Rb_ HO464 hb; replace HO468 := Rb_ HO468 hb; replace HO471 := Rb_ HO471 hb; replace HO479 := Rb_ HO479 hb; replace HO482 := Rb_ HO482 hb; replace HO488 := Rb_ HO488 hb; replace HO491 := Rb_ HO491 hb; replace HO494 := Rb_ HO494 hb; replace HO497 := Rb_ HO497 hb; replace BK417 := Bb_ BK417 hb; replace BK430 := Bb_ BK430 hb; replace BK450 := Bb_ BK450 hb; replace BK451 := Bb_ BK451 hb; replace BK458 := Bb_ BK458 hb; replace BK465 := Bb_ BK465 hb; replace BK474 := Bb_ BK474 hb; replace HB := Hs_ HB hb
               (try clear hb)
               (try clear hb2)
               (try clear hk)
               (try clear hi)
               refine hK.out _ _ ⟨(blk_cell BK417.out 0).trans rfl, (blk_cell BK417.out 1).trans rfl, (blk_cell BK430.out 0).trans rfl, (blk_cell BK430.out 1).trans rfl, (blk_cell BK458.out 0).trans rfl, (blk_cell BK458.out 1).trans rfl, (blk_cell BK450.out 0).trans rfl, (blk_cell BK450.out 1).trans rfl, (blk_cell BK451.out 0).trans rfl, (blk_cell BK451.out 1).trans rfl, (blk_cell BK465.out 0).trans rfl, (blk_cell BK465.out 1).trans rfl, (blk_cell BK474.out 0).trans rfl, (blk_cell BK474.out 1).trans rfl⟩ (fun hHeld => ?_)
               clear hK K
               refine norm_ (a' := ?_) ?_ ?_
               rotate_left
               ·show Act.put _ (some 115) _ = _
                simp only [Act.put, List.setIfInBounds_toArray, List.set_cons_zero, List.set_cons_succ, i64_w, i32_w]
                rfl
               refine pure_ (i := 30) (N := some 116) (v := ?_) (a' := ?_) #[true, true, true, true, true, true, true, true, true, true, true, true, true, true, true, true, true, true, true, true, true, true, true, true, true, true, true, true, true, true, true, false, false, false, false, false, false] rfl rfl (any_of HT_.out (by kernel_rfl)) (fun _ _ _ h => h) (Or.inl ⟨by rfl, ?_⟩) ?_ ?_
               rotate_left
               ·intro w'
                go_simp
                with_reducible rfl
               rotate_left
               ·simp only [Act.put, List.setIfInBounds_toArray, List.set_cons_zero, List.set_cons_succ, i64_w, i32_w]
                rfl
               refine pure_ (i := 31) (N := some 117) (v := ?_) (a' := ?_) #[true, true, true, true, true, true, true, true, true, true, true, true, true, true, true, true, true, true, true, true, true, true, true, true, true, true, true, true, true, true, true, true, false, false, false, false, false] rfl rfl (any_of HT_.out (by kernel_rfl)) (fun _ _ _ h => h) (Or.inl ⟨by rfl, ?_⟩) ?_ ?_
               rotate_left
               ·intro w'
                go_simp
                with_reducible rfl
               rotate_left
               ·simp only [Act.put, List.setIfInBounds_toArray, List.set_cons_zero, List.set_cons_succ, i64_w, i32_w]
                rfl
               refine take_ (i := 32) (N := some 118) (v := ?_) (a' := ?_) #[true, true, true, true, true, true, true, true, true, true, true, true, true, true, true, true, true, true, true, true, true, true, true, true, true, true, true, true, true, true, true, true, true, false, false, false, false] rfl rfl (take_ofW HT_.out HW_.out (by kernel_rfl)) (fun _ _ _ h => h) (Or.inl ⟨by rfl, ?_⟩) hHeld ?_ ?_
               rotate_left
               ·rintro w' ⟨s0, s1, s2, s3, s4, s5, s6, s7, s8, s9, s10, s11, s12, s13⟩
                go_simp
                with_reducible rfl
               rotate_left
               ·simp only [Act.put, List.setIfInBounds_toArray, List.set_cons_zero, List.set_cons_succ, i64_w, i32_w]
                rfl
               refine one_ (i := 33) (N := some 119) #[true, true, true, true, true, true, true, true, true, true, true, true, true, true, true, true, true, true, true, true, true, true, true, true, true, true, true, true, true, true, true, true, true, true, false, false, false] rfl rfl (one_of HT_.out (by kernel_rfl)) (by decide) (fun K hK => ?_)
               refine goes_ Try.func39 (by kernel_rfl) rfl #[.agg #[.slice (some ad422) t411.length co15, .slice Ao17 t414.length co17], .string (⟨#[110, 111, 110, 101]⟩ : ByteArray)] (by rfl) rfl rfl Mp_ ?_
               with_reducible refine (impl_GetIn.calls k1 _ _ t411 _ _ t414 (⟨#[110, 111, 110, 101]⟩ : ByteArray) t499 _ ?side1 ?side2 ?side3 ?side4 A64.out).mono ?_
               (case side1 => exact Cq_ (Kd.R_reads' HO_418000.out).2.2)
               (case side2 => exact (Kd.R_reads' HO_418000.out).2.1)
               (case side3 => exact Cq_ (Kd.R_reads' HO_418001.out).2.2)
               (case side4 => exact (Kd.R_reads' HO_418001.out).2.1)
               rintro e w128 ⟨rfl, hb⟩
               refine ⟨_, rfl, ?_⟩
               replace HO_4 := Rb_ HO_4 hb; replace HO_418000 := Rb_ HO_418000 hb; replace HO_418001 := Rb_ HO_418001 hb; replace HO_431000 := Rb_ HO_431000 hb; replace HO_431001 := Rb_ HO_431001 hb; replace HO440 := Rb_ HO440 hb; replace HO443 := Rb_ HO443 hb; replace HO446 := Rb_ HO446 hb; replace HO449 := Rb_ HO449 hb; replace HO454 := Rb_ HO454 hb; replace HO457 := Rb_ HO457 hb; replace HO461 := Rb_ HO461 hb; replace HO464 := Rb_ HO464 hb; replace HO468 := Rb_ HO468 hb; replace HO471 := Rb_ HO471 hb; replace HO479 := Rb_ HO479 hb; replace HO482 := Rb_ HO482 hb; replace HO488 := Rb_ HO488 hb; replace HO491 := Rb_ HO491 hb; replace HO494 := Rb_ HO494 hb; replace HO497 := Rb_ HO497 hb; replace BK417 := Bb_ BK417 hb; replace BK430 := Bb_ BK430 hb; replace BK450 := Bb_ BK450 hb; replace BK451 := Bb_ BK451 hb; replace BK458 := Bb_ BK458 hb; replace BK465 := Bb_ BK465 hb; replace BK474 := Bb_ BK474 hb; replace HB := Hs_ HB hb
               (try clear hb)
               (try clear hb2)
               (try clear hk)
               (try clear hi)
               refine hK.out _ _ ⟨(blk_cell BK417.out 0).trans rfl, (blk_cell BK417.out 1).trans rfl, (blk_cell BK430.out 0).trans rfl, (blk_cell BK430.out 1).trans rfl, (blk_cell BK458.out 0).trans rfl, (blk_cell BK458.out 1).trans rfl, (blk_cell BK450.out 0).trans rfl, (blk_cell BK450.out 1).trans rfl, (blk_cell BK451.out 0).trans rfl, (blk_cell BK451.out 1).trans rfl, (blk_cell BK465.out 0).trans rfl, (blk_cell BK465.out 1).trans rfl, (blk_cell BK474.out 0).trans rfl, (blk_cell BK474.out 1).trans rfl⟩ (fun hHeld => ?_)
               clear hK K
               refine norm_ (a' := ?_) ?_ ?_
               rotate_left
               ·show Act.put _ (some 119) _ = _
                simp only [Act.put, List.setIfInBounds_toArray, List.set_cons_zero, List.set_cons_succ, i64_w, i32_w]
                rfl
               refine pure_ (i := 34) (N := some 120) (v := ?_) (a' := ?_) #[true, true, true, true, true, true, true, true, true, true, true, true, true, true, true, true, true, true, true, true, true, true, true, true, true, true, true, true, true, true, true, true, true, true, true, false, false] rfl rfl (any_of HT_.out (by kernel_rfl)) (fun _ _ _ h => h) (Or.inl ⟨by rfl, ?_⟩) ?_ ?_
               rotate_left
               ·intro w'
                go_simp
                with_reducible rfl
               rotate_left
               ·simp only [Act.put, List.setIfInBounds_toArray, List.set_cons_zero, List.set_cons_succ, i64_w, i32_w]
                rfl
               refine pure_ (i := 35) (N := some 121) (v := ?_) (a' := ?_) #[true, true, true, true, true, true, true, true, true, true, true, true, true, true, true, true, true, true, true, true, true, true, true, true, true, true, true, true, true, true, true, true, true, true, true, true, false] rfl rfl (any_of HT_.out (by kernel_rfl)) (fun _ _ _ h => h) (Or.inl ⟨by rfl, ?_⟩) ?_ ?_
               rotate_left
               ·intro w'
                go_simp
                with_reducible rfl
               rotate_left
               ·simp only [Act.put, List.setIfInBounds_toArray, List.set_cons_zero, List.set_cons_succ, i64_w, i32_w]
                rfl
               refine pure_ (i := 36) (N := some 2) (v := ?_) (a' := ?_) #[true, true, true, true, true, true, true, true, true, true, true, true, true, true, true, true, true, true, true, true, true, true, true, true, true, true, true, true, true, true, true, true, true, true, true, true, true] rfl rfl (any_of HT_.out (by kernel_rfl)) (fun _ _ _ h => h) (Or.inl ⟨by rfl, ?_⟩) ?_ ?_
               rotate_left
               ·intro w'
                go_simp
                with_reducible rfl
               rotate_left
               ·simp only [Act.put, List.setIfInBounds_toArray, List.set_cons_zero, List.set_cons_succ, i64_w, i32_w]
                rfl
               refine done_ (done_of HT_.out (by kernel_rfl)) ?_
               try go_wp2
               go_ret
               exact ⟨by first | rfl | (simp [errW_none, errW_some] <;> rfl) | (simp only [← hji8]; first | rfl | (simp [errW_none, errW_some] <;> rfl)) | (simp [*, errW_none, errW_some] <;> rfl), Hf_ HB⟩
              ·replace c63 := Bool.eq_false_iff.mpr c63
               subst c63
               have H1 : (some false) = some r := by rw [if_neg (show ¬ (false = true) by decide)] at H; exact H
               clear H
               have H := H1
               clear H1
               exact absurd (Option.some.inj H) (by rw [hlaw_.out]; decide)
             ·rw [if_neg c59] at H
              have c59b0 : (t484 == t485) = false := by simpa using c59
              (try (have c59b1 : decide (t484 = t485) = false := by simpa using c59))
              (try (have c59b2 : (t484 == t485) = false := by simpa using c59))
              (try (have c59b3 : ¬ (t484 = t485) := by simpa using c59))
              clear c59
              exact absurd (Option.some.inj H) (by rw [hlaw_.out]; decide)
            ·replace c56 := Bool.eq_false_iff.mpr c56
             subst c56
             have H1 : (some false) = some r := by rw [if_neg (show ¬ (false = true) by decide)] at H; exact H
             clear H
             have H := H1
             clear H1
             exact absurd (Option.some.inj H) (by rw [hlaw_.out]; decide)
           ·replace c53 := Bool.eq_false_iff.mpr c53
            subst c53
            have H1 : (some false) = some r := by rw [if_neg (show ¬ (false = true) by decide)] at H; exact H
            clear H
            have H := H1
            clear H1
            exact absurd (Option.some.inj H) (by rw [hlaw_.out]; decide)
          ·replace c51 := Bool.eq_false_iff.mpr c51
           subst c51
           have H1 : (some false) = some r := by rw [if_neg (show ¬ (false = true) by decide)] at H; exact H
           clear H
           have H := H1
           clear H1
           exact absurd (Option.some.inj H) (by rw [hlaw_.out]; decide)
      ·rw [if_neg c11] at H
       exact absurd H (by simp)
     ·rw [if_neg c10] at H
      exact absurd H (by simp)
    ·rw [if_neg c9] at H
     exact absurd H (by simp)
  ·rw [if_neg c6] at H
   exact absurd H (by simp)

/-- THE ONE PURE STATEMENT of laws_FnEnvs: yours. -/
def laws_FnEnvs.Pure : Prop := ∀ (l0 : List Int), l0.length ≤ maxLen → l0.length * 1 ≤ 140737488351232 → (∀ x ∈ l0, (Lit.int .u8 x).wf = true) → ∃ k, laws_FnEnvs.f k l0 = some true
theorem laws_FnEnvs.walk (P : laws_FnEnvs.Pure) (a0 : Option Addr) (len0 cap0 : Nat) (z0 : List Int) (w : World) (w0 : (a0 = none ∧ len0 = 0 ∧ cap0 = 0 ∧ z0 = []) ∨ ∃ x, a0 = some x ∧ len0 ≤ cap0 ∧ cap0 ≤ maxLen ∧ z0.length = cap0 ∧ (∀ i, i < z0.length → w.cell? (x.add i) = some (.int .u8 (z0.getD i 0))) ∧ ∀ n ∈ z0, (Lit.int .u8 n).wf = true) (y0 : len0 * 1 ≤ 140737488351232) :
  Calls Try.prog 8 #[.slice a0 len0 cap0] w fun e w' => e = .returned (.bool true) ∧ Below w.heap.size w w' := by
 obtain ⟨l0, rfl, hr0, hm0, hw0, hc0⟩ := ReadsInt.ofRowC w0
 obtain ⟨k, h⟩ := P l0 hm0 y0 hw0
 refine (laws_FnEnvs.calls k _ _ l0 true w (Kd.C_of_reads (d := (0 : Int)) (h1 := fun _ => rfl) hr0) hc0 ⟨rfl⟩ h).mono ?_
 rintro e w' ⟨rfl, hd⟩
 exact ⟨rfl, hd⟩

end Go.Proofs.Ytegeahiflkjhmaa.PFnEnvs
