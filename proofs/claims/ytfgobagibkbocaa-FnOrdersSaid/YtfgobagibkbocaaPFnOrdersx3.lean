/- The machine side of the law FnOrders: for each function that it reaches, a Lean function and its contract. Written by a program of this session's over the kit's print. No condition. -/
import Derived.Test.YtfgobagibkbocaaCmp
import Derived.Test.YtfgobagibkbocaaPFnOrdersx0
import Derived.Test.YtfgobagibkbocaaPFnOrdersx1
import Derived.Test.YtfgobagibkbocaaPFnOrdersx2
namespace Go.Proofs.Ytfgobagibkbocaa.PFnOrders
open Go.RowKit Go.Proofs.YtfgobagibkbocaaW.PrintWords Go.Proofs.YtfgobagibkbocaaW.PrintLast Go.Proofs.YtfgobagibkbocaaW.PrintMore Go.Proofs.Ytfgobagibkbocaa.Cmp
attribute [local go_sem] max2_int min2_int max_two min_two max_three min_three max_four min_four   -- for this text's walks alone
set_option linter.unusedVariables false
set_option linter.unusedSimpArgs false

/-! ### laws_FnOrders: function 9 -/
def laws_FnOrders.f (k : Nat) (l0 : List Int) : Option (Bool) := (laws_big.f l0).bind fun t158 => (if t158 = true then (some true) else ((spec_DrawPlaces.f k l0).bind fun t159 => (if 0 < (t159.length : Int) then (if 1 < (t159.length : Int) then ((impl_Calc.f k 6 (wrap64 ((rd t159 0) - 5000)) (wrap64 ((rd t159 1) - 5000))).bind fun bt164 => ((impl_Calc.f k 6 (wrap64 ((rd t159 1) - 5000)) (wrap64 ((rd t159 0) - 5000))).bind fun bt166 => ((impl_Calc.f k 7 (wrap64 ((rd t159 0) - 5000)) (wrap64 ((rd t159 1) - 5000))).bind fun bt168 => ((impl_Calc.f k 1 (wrap64 ((rd t159 0) - 5000)) (wrap64 ((rd t159 1) - 5000))).bind fun bt170 => ((impl_Calc.f k 2 bt170.1 (wrap64 ((rd t159 1) - 5000))).bind fun bt172 => ((impl_Calc.f k 3 (wrap64 ((rd t159 0) - 5000)) (wrap64 ((rd t159 1) - 5000))).bind fun bt174 => (if (wrap64 ((wrap64 ((rd t159 0) - 5000)) * (wrap64 ((rd t159 1) - 5000)))) > 1000000 then (if bt164.2 = 0 then (if bt166.2 = 0 then (if bt168.2 = 0 then (if (wrap64 ((wrap64 (bt164.1 + bt166.1)) + bt168.1)) = 1 then (if bt170.2 = 0 then (if bt172.2 = 0 then (if bt172.1 = (wrap64 ((rd t159 0) - 5000)) then (if bt174.2 = 1 then (some true) else (some false)) else (some false)) else (some false)) else (some false)) else (some false)) else (some false)) else (some false)) else (some false)) else (if bt164.2 = 0 then (if bt166.2 = 0 then (if bt168.2 = 0 then (if (wrap64 ((wrap64 (bt164.1 + bt166.1)) + bt168.1)) = 1 then (if bt170.2 = 0 then (if bt172.2 = 0 then (if bt172.1 = (wrap64 ((rd t159 0) - 5000)) then (if (wrap64 ((wrap64 ((rd t159 0) - 5000)) * (wrap64 ((rd t159 1) - 5000)))) < (-1000000) then (if bt174.2 = 1 then (some true) else (if ((wrap64 ((wrap64 ((rd t159 0) - 5000)) * (wrap64 ((rd t159 1) - 5000)))) < (-1000000)) then (some false) else (if bt174.2 = 0 then (some (bt174.1 == (wrap64 ((wrap64 ((rd t159 0) - 5000)) * (wrap64 ((rd t159 1) - 5000)))))) else (some false)))) else (if ((wrap64 ((wrap64 ((rd t159 0) - 5000)) * (wrap64 ((rd t159 1) - 5000)))) < (-1000000)) then (some false) else (if bt174.2 = 0 then (some (bt174.1 == (wrap64 ((wrap64 ((rd t159 0) - 5000)) * (wrap64 ((rd t159 1) - 5000)))))) else (some false)))) else (some false)) else (some false)) else (some false)) else (some false)) else (some false)) else (some false)) else (some false))))))))) else (none)) else (none))))
theorem laws_FnOrders.mono : ∀ a0 k, LeO (laws_FnOrders.f k a0) (laws_FnOrders.f (k + 1) a0) := by
  intro a0 k
  unfold laws_FnOrders.f
  repeat' first
      | (with_reducible exact impl_Calc.mono _ _ _ _)
      | (with_reducible exact spec_DrawPlaces.mono _ _)
      | (with_reducible exact LeO.refl _)
      | (with_reducible exact LeO.none _)
      | (with_reducible refine LeO.ite ?_ ?_)
      | (with_reducible refine LeO.bind ?_ (fun _ => ?_))
      | exact impl_Calc.mono _ _ _ _
      | exact spec_DrawPlaces.mono _ _
      | exact LeO.none _
      | refine LeO.ite ?_ ?_
      | refine LeO.bind ?_ (fun _ => ?_)
set_option maxHeartbeats 8000000 in
set_option maxRecDepth 100000 in
theorem laws_FnOrders.calls (k : Nat) (A0 : Option Addr) (c0 : Nat) (l0 : List Int) (r : Bool) (w : World) (hr0 : Kd.C (Kd.int .u8) w A0 l0.length l0) (hc0 : l0.length ≤ c0) (hlaw_ : Aside0 (r = true)) (h : laws_FnOrders.f k l0 = some r) :
    Calls Try.prog 9 #[.slice A0 l0.length c0] w fun e w' => e = .returned (.bool r) ∧ Below w.heap.size w w' := by
  have HR0 := Aside0.mk hr0
  have HC0 := Aside0.mk hc0
  clear hr0 hc0
  have HB := Aside0.mk (Below.refl w.heap.size w)
  have H : ((laws_big.f l0).bind fun t158 => (if t158 = true then (some true) else ((spec_DrawPlaces.f k l0).bind fun t159 => (if 0 < (t159.length : Int) then (if 1 < (t159.length : Int) then ((impl_Calc.f k 6 (wrap64 ((rd t159 0) - 5000)) (wrap64 ((rd t159 1) - 5000))).bind fun bt164 => ((impl_Calc.f k 6 (wrap64 ((rd t159 1) - 5000)) (wrap64 ((rd t159 0) - 5000))).bind fun bt166 => ((impl_Calc.f k 7 (wrap64 ((rd t159 0) - 5000)) (wrap64 ((rd t159 1) - 5000))).bind fun bt168 => ((impl_Calc.f k 1 (wrap64 ((rd t159 0) - 5000)) (wrap64 ((rd t159 1) - 5000))).bind fun bt170 => ((impl_Calc.f k 2 bt170.1 (wrap64 ((rd t159 1) - 5000))).bind fun bt172 => ((impl_Calc.f k 3 (wrap64 ((rd t159 0) - 5000)) (wrap64 ((rd t159 1) - 5000))).bind fun bt174 => (if (wrap64 ((wrap64 ((rd t159 0) - 5000)) * (wrap64 ((rd t159 1) - 5000)))) > 1000000 then (if bt164.2 = 0 then (if bt166.2 = 0 then (if bt168.2 = 0 then (if (wrap64 ((wrap64 (bt164.1 + bt166.1)) + bt168.1)) = 1 then (if bt170.2 = 0 then (if bt172.2 = 0 then (if bt172.1 = (wrap64 ((rd t159 0) - 5000)) then (if bt174.2 = 1 then (some true) else (some false)) else (some false)) else (some false)) else (some false)) else (some false)) else (some false)) else (some false)) else (some false)) else (if bt164.2 = 0 then (if bt166.2 = 0 then (if bt168.2 = 0 then (if (wrap64 ((wrap64 (bt164.1 + bt166.1)) + bt168.1)) = 1 then (if bt170.2 = 0 then (if bt172.2 = 0 then (if bt172.1 = (wrap64 ((rd t159 0) - 5000)) then (if (wrap64 ((wrap64 ((rd t159 0) - 5000)) * (wrap64 ((rd t159 1) - 5000)))) < (-1000000) then (if bt174.2 = 1 then (some true) else (if ((wrap64 ((wrap64 ((rd t159 0) - 5000)) * (wrap64 ((rd t159 1) - 5000)))) < (-1000000)) then (some false) else (if bt174.2 = 0 then (some (bt174.1 == (wrap64 ((wrap64 ((rd t159 0) - 5000)) * (wrap64 ((rd t159 1) - 5000)))))) else (some false)))) else (if ((wrap64 ((wrap64 ((rd t159 0) - 5000)) * (wrap64 ((rd t159 1) - 5000)))) < (-1000000)) then (some false) else (if bt174.2 = 0 then (some (bt174.1 == (wrap64 ((wrap64 ((rd t159 0) - 5000)) * (wrap64 ((rd t159 1) - 5000)))))) else (some false)))) else (some false)) else (some false)) else (some false)) else (some false)) else (some false)) else (some false)) else (some false))))))))) else (none)) else (none))))) = some r := h
  clear h
  replace H := Option.bind_eq_some_iff.mp H
  obtain ⟨t158, A20, H⟩ := H
  replace H : (if t158 = true then (some true) else ((spec_DrawPlaces.f k l0).bind fun t159 => (if 0 < (t159.length : Int) then (if 1 < (t159.length : Int) then ((impl_Calc.f k 6 (wrap64 ((rd t159 0) - 5000)) (wrap64 ((rd t159 1) - 5000))).bind fun bt164 => ((impl_Calc.f k 6 (wrap64 ((rd t159 1) - 5000)) (wrap64 ((rd t159 0) - 5000))).bind fun bt166 => ((impl_Calc.f k 7 (wrap64 ((rd t159 0) - 5000)) (wrap64 ((rd t159 1) - 5000))).bind fun bt168 => ((impl_Calc.f k 1 (wrap64 ((rd t159 0) - 5000)) (wrap64 ((rd t159 1) - 5000))).bind fun bt170 => ((impl_Calc.f k 2 bt170.1 (wrap64 ((rd t159 1) - 5000))).bind fun bt172 => ((impl_Calc.f k 3 (wrap64 ((rd t159 0) - 5000)) (wrap64 ((rd t159 1) - 5000))).bind fun bt174 => (if (wrap64 ((wrap64 ((rd t159 0) - 5000)) * (wrap64 ((rd t159 1) - 5000)))) > 1000000 then (if bt164.2 = 0 then (if bt166.2 = 0 then (if bt168.2 = 0 then (if (wrap64 ((wrap64 (bt164.1 + bt166.1)) + bt168.1)) = 1 then (if bt170.2 = 0 then (if bt172.2 = 0 then (if bt172.1 = (wrap64 ((rd t159 0) - 5000)) then (if bt174.2 = 1 then (some true) else (some false)) else (some false)) else (some false)) else (some false)) else (some false)) else (some false)) else (some false)) else (some false)) else (if bt164.2 = 0 then (if bt166.2 = 0 then (if bt168.2 = 0 then (if (wrap64 ((wrap64 (bt164.1 + bt166.1)) + bt168.1)) = 1 then (if bt170.2 = 0 then (if bt172.2 = 0 then (if bt172.1 = (wrap64 ((rd t159 0) - 5000)) then (if (wrap64 ((wrap64 ((rd t159 0) - 5000)) * (wrap64 ((rd t159 1) - 5000)))) < (-1000000) then (if bt174.2 = 1 then (some true) else (if ((wrap64 ((wrap64 ((rd t159 0) - 5000)) * (wrap64 ((rd t159 1) - 5000)))) < (-1000000)) then (some false) else (if bt174.2 = 0 then (some (bt174.1 == (wrap64 ((wrap64 ((rd t159 0) - 5000)) * (wrap64 ((rd t159 1) - 5000)))))) else (some false)))) else (if ((wrap64 ((wrap64 ((rd t159 0) - 5000)) * (wrap64 ((rd t159 1) - 5000)))) < (-1000000)) then (some false) else (if bt174.2 = 0 then (some (bt174.1 == (wrap64 ((wrap64 ((rd t159 0) - 5000)) * (wrap64 ((rd t159 1) - 5000)))))) else (some false)))) else (some false)) else (some false)) else (some false)) else (some false)) else (some false)) else (some false)) else (some false))))))))) else (none)) else (none)))) = some r := H
  have A2 := Aside0.mk A20
  clear A20
  by_cases c3 : t158 = true
  · subst c3
    have H1 : (some true) = some r := by rw [if_pos rfl] at H; exact H
    clear H
    have H := H1
    clear H1
    obtain rfl := Option.some.inj H
    go_enter Try.func9, Try.ntmps9
    go_wp2_with (first | ((with_reducible refine gate_callee (f := 33) rfl ?_); refine goesL_ (some 20) rfl rfl Try.func33 (by kernel_rfl) rfl #[.slice A0 l0.length c0] rfl Mp_ ?_; (with_reducible refine (laws_big.calls _ _ l0 true _ ?side1 ?side2 A2.out).mono ?_); (case side1 => repeat (first | exact HR0.out | (with_reducible refine Kd.C_alloc ?_ _) | (with_reducible refine Kd.C_drewN ?_ _) | (with_reducible refine Kd.C_drew ?_))); (case side2 => exact HC0.out); rintro e w' ⟨rfl, ⟨nd, rfl⟩⟩; refine ⟨_, rfl, ?_⟩))
    go_ret
    exact ⟨Re_, Hf_ HB⟩
  · replace c3 := Bool.eq_false_iff.mpr c3
    subst c3
    have H1 : ((spec_DrawPlaces.f k l0).bind fun t159 => (if 0 < (t159.length : Int) then (if 1 < (t159.length : Int) then ((impl_Calc.f k 6 (wrap64 ((rd t159 0) - 5000)) (wrap64 ((rd t159 1) - 5000))).bind fun bt164 => ((impl_Calc.f k 6 (wrap64 ((rd t159 1) - 5000)) (wrap64 ((rd t159 0) - 5000))).bind fun bt166 => ((impl_Calc.f k 7 (wrap64 ((rd t159 0) - 5000)) (wrap64 ((rd t159 1) - 5000))).bind fun bt168 => ((impl_Calc.f k 1 (wrap64 ((rd t159 0) - 5000)) (wrap64 ((rd t159 1) - 5000))).bind fun bt170 => ((impl_Calc.f k 2 bt170.1 (wrap64 ((rd t159 1) - 5000))).bind fun bt172 => ((impl_Calc.f k 3 (wrap64 ((rd t159 0) - 5000)) (wrap64 ((rd t159 1) - 5000))).bind fun bt174 => (if (wrap64 ((wrap64 ((rd t159 0) - 5000)) * (wrap64 ((rd t159 1) - 5000)))) > 1000000 then (if bt164.2 = 0 then (if bt166.2 = 0 then (if bt168.2 = 0 then (if (wrap64 ((wrap64 (bt164.1 + bt166.1)) + bt168.1)) = 1 then (if bt170.2 = 0 then (if bt172.2 = 0 then (if bt172.1 = (wrap64 ((rd t159 0) - 5000)) then (if bt174.2 = 1 then (some true) else (some false)) else (some false)) else (some false)) else (some false)) else (some false)) else (some false)) else (some false)) else (some false)) else (if bt164.2 = 0 then (if bt166.2 = 0 then (if bt168.2 = 0 then (if (wrap64 ((wrap64 (bt164.1 + bt166.1)) + bt168.1)) = 1 then (if bt170.2 = 0 then (if bt172.2 = 0 then (if bt172.1 = (wrap64 ((rd t159 0) - 5000)) then (if (wrap64 ((wrap64 ((rd t159 0) - 5000)) * (wrap64 ((rd t159 1) - 5000)))) < (-1000000) then (if bt174.2 = 1 then (some true) else (if ((wrap64 ((wrap64 ((rd t159 0) - 5000)) * (wrap64 ((rd t159 1) - 5000)))) < (-1000000)) then (some false) else (if bt174.2 = 0 then (some (bt174.1 == (wrap64 ((wrap64 ((rd t159 0) - 5000)) * (wrap64 ((rd t159 1) - 5000)))))) else (some false)))) else (if ((wrap64 ((wrap64 ((rd t159 0) - 5000)) * (wrap64 ((rd t159 1) - 5000)))) < (-1000000)) then (some false) else (if bt174.2 = 0 then (some (bt174.1 == (wrap64 ((wrap64 ((rd t159 0) - 5000)) * (wrap64 ((rd t159 1) - 5000)))))) else (some false)))) else (some false)) else (some false)) else (some false)) else (some false)) else (some false)) else (some false)) else (some false))))))))) else (none)) else (none))) = some r := by rw [if_neg (show ¬ (false = true) by decide)] at H; exact H
    clear H
    have H := H1
    clear H1
    replace H := Option.bind_eq_some_iff.mp H
    obtain ⟨t159, A40, H⟩ := H
    replace H : (if 0 < (t159.length : Int) then (if 1 < (t159.length : Int) then ((impl_Calc.f k 6 (wrap64 ((rd t159 0) - 5000)) (wrap64 ((rd t159 1) - 5000))).bind fun bt164 => ((impl_Calc.f k 6 (wrap64 ((rd t159 1) - 5000)) (wrap64 ((rd t159 0) - 5000))).bind fun bt166 => ((impl_Calc.f k 7 (wrap64 ((rd t159 0) - 5000)) (wrap64 ((rd t159 1) - 5000))).bind fun bt168 => ((impl_Calc.f k 1 (wrap64 ((rd t159 0) - 5000)) (wrap64 ((rd t159 1) - 5000))).bind fun bt170 => ((impl_Calc.f k 2 bt170.1 (wrap64 ((rd t159 1) - 5000))).bind fun bt172 => ((impl_Calc.f k 3 (wrap64 ((rd t159 0) - 5000)) (wrap64 ((rd t159 1) - 5000))).bind fun bt174 => (if (wrap64 ((wrap64 ((rd t159 0) - 5000)) * (wrap64 ((rd t159 1) - 5000)))) > 1000000 then (if bt164.2 = 0 then (if bt166.2 = 0 then (if bt168.2 = 0 then (if (wrap64 ((wrap64 (bt164.1 + bt166.1)) + bt168.1)) = 1 then (if bt170.2 = 0 then (if bt172.2 = 0 then (if bt172.1 = (wrap64 ((rd t159 0) - 5000)) then (if bt174.2 = 1 then (some true) else (some false)) else (some false)) else (some false)) else (some false)) else (some false)) else (some false)) else (some false)) else (some false)) else (if bt164.2 = 0 then (if bt166.2 = 0 then (if bt168.2 = 0 then (if (wrap64 ((wrap64 (bt164.1 + bt166.1)) + bt168.1)) = 1 then (if bt170.2 = 0 then (if bt172.2 = 0 then (if bt172.1 = (wrap64 ((rd t159 0) - 5000)) then (if (wrap64 ((wrap64 ((rd t159 0) - 5000)) * (wrap64 ((rd t159 1) - 5000)))) < (-1000000) then (if bt174.2 = 1 then (some true) else (if ((wrap64 ((wrap64 ((rd t159 0) - 5000)) * (wrap64 ((rd t159 1) - 5000)))) < (-1000000)) then (some false) else (if bt174.2 = 0 then (some (bt174.1 == (wrap64 ((wrap64 ((rd t159 0) - 5000)) * (wrap64 ((rd t159 1) - 5000)))))) else (some false)))) else (if ((wrap64 ((wrap64 ((rd t159 0) - 5000)) * (wrap64 ((rd t159 1) - 5000)))) < (-1000000)) then (some false) else (if bt174.2 = 0 then (some (bt174.1 == (wrap64 ((wrap64 ((rd t159 0) - 5000)) * (wrap64 ((rd t159 1) - 5000)))))) else (some false)))) else (some false)) else (some false)) else (some false)) else (some false)) else (some false)) else (some false)) else (some false))))))))) else (none)) else (none)) = some r := H
    have A4 := Aside0.mk A40
    clear A40
    by_cases c5 : 0 < (t159.length : Int)
    · rw [if_pos c5] at H
      have c5b0 : decide (0 < (t159.length : Int)) = true := decide_eq_true c5
      have c5b1 : decide (0 < t159.length) = true := decide_eq_true (by omega)
      clear c5
      by_cases c6 : 1 < (t159.length : Int)
      · rw [if_pos c6] at H
        have c6b0 : decide (1 < (t159.length : Int)) = true := decide_eq_true c6
        have c6b1 : decide (1 < t159.length) = true := decide_eq_true (by omega)
        clear c6
        replace H := Option.bind_eq_some_iff.mp H
        obtain ⟨⟨t164, t165⟩, A70, H⟩ := H
        replace H : ((impl_Calc.f k 6 (wrap64 ((rd t159 1) - 5000)) (wrap64 ((rd t159 0) - 5000))).bind fun bt166 => ((impl_Calc.f k 7 (wrap64 ((rd t159 0) - 5000)) (wrap64 ((rd t159 1) - 5000))).bind fun bt168 => ((impl_Calc.f k 1 (wrap64 ((rd t159 0) - 5000)) (wrap64 ((rd t159 1) - 5000))).bind fun bt170 => ((impl_Calc.f k 2 bt170.1 (wrap64 ((rd t159 1) - 5000))).bind fun bt172 => ((impl_Calc.f k 3 (wrap64 ((rd t159 0) - 5000)) (wrap64 ((rd t159 1) - 5000))).bind fun bt174 => (if (wrap64 ((wrap64 ((rd t159 0) - 5000)) * (wrap64 ((rd t159 1) - 5000)))) > 1000000 then (if t165 = 0 then (if bt166.2 = 0 then (if bt168.2 = 0 then (if (wrap64 ((wrap64 (t164 + bt166.1)) + bt168.1)) = 1 then (if bt170.2 = 0 then (if bt172.2 = 0 then (if bt172.1 = (wrap64 ((rd t159 0) - 5000)) then (if bt174.2 = 1 then (some true) else (some false)) else (some false)) else (some false)) else (some false)) else (some false)) else (some false)) else (some false)) else (some false)) else (if t165 = 0 then (if bt166.2 = 0 then (if bt168.2 = 0 then (if (wrap64 ((wrap64 (t164 + bt166.1)) + bt168.1)) = 1 then (if bt170.2 = 0 then (if bt172.2 = 0 then (if bt172.1 = (wrap64 ((rd t159 0) - 5000)) then (if (wrap64 ((wrap64 ((rd t159 0) - 5000)) * (wrap64 ((rd t159 1) - 5000)))) < (-1000000) then (if bt174.2 = 1 then (some true) else (if ((wrap64 ((wrap64 ((rd t159 0) - 5000)) * (wrap64 ((rd t159 1) - 5000)))) < (-1000000)) then (some false) else (if bt174.2 = 0 then (some (bt174.1 == (wrap64 ((wrap64 ((rd t159 0) - 5000)) * (wrap64 ((rd t159 1) - 5000)))))) else (some false)))) else (if ((wrap64 ((wrap64 ((rd t159 0) - 5000)) * (wrap64 ((rd t159 1) - 5000)))) < (-1000000)) then (some false) else (if bt174.2 = 0 then (some (bt174.1 == (wrap64 ((wrap64 ((rd t159 0) - 5000)) * (wrap64 ((rd t159 1) - 5000)))))) else (some false)))) else (some false)) else (some false)) else (some false)) else (some false)) else (some false)) else (some false)) else (some false)))))))) = some r := H
        have A7 := Aside0.mk A70
        clear A70
        replace H := Option.bind_eq_some_iff.mp H
        obtain ⟨⟨t166, t167⟩, A80, H⟩ := H
        replace H : ((impl_Calc.f k 7 (wrap64 ((rd t159 0) - 5000)) (wrap64 ((rd t159 1) - 5000))).bind fun bt168 => ((impl_Calc.f k 1 (wrap64 ((rd t159 0) - 5000)) (wrap64 ((rd t159 1) - 5000))).bind fun bt170 => ((impl_Calc.f k 2 bt170.1 (wrap64 ((rd t159 1) - 5000))).bind fun bt172 => ((impl_Calc.f k 3 (wrap64 ((rd t159 0) - 5000)) (wrap64 ((rd t159 1) - 5000))).bind fun bt174 => (if (wrap64 ((wrap64 ((rd t159 0) - 5000)) * (wrap64 ((rd t159 1) - 5000)))) > 1000000 then (if t165 = 0 then (if t167 = 0 then (if bt168.2 = 0 then (if (wrap64 ((wrap64 (t164 + t166)) + bt168.1)) = 1 then (if bt170.2 = 0 then (if bt172.2 = 0 then (if bt172.1 = (wrap64 ((rd t159 0) - 5000)) then (if bt174.2 = 1 then (some true) else (some false)) else (some false)) else (some false)) else (some false)) else (some false)) else (some false)) else (some false)) else (some false)) else (if t165 = 0 then (if t167 = 0 then (if bt168.2 = 0 then (if (wrap64 ((wrap64 (t164 + t166)) + bt168.1)) = 1 then (if bt170.2 = 0 then (if bt172.2 = 0 then (if bt172.1 = (wrap64 ((rd t159 0) - 5000)) then (if (wrap64 ((wrap64 ((rd t159 0) - 5000)) * (wrap64 ((rd t159 1) - 5000)))) < (-1000000) then (if bt174.2 = 1 then (some true) else (if ((wrap64 ((wrap64 ((rd t159 0) - 5000)) * (wrap64 ((rd t159 1) - 5000)))) < (-1000000)) then (some false) else (if bt174.2 = 0 then (some (bt174.1 == (wrap64 ((wrap64 ((rd t159 0) - 5000)) * (wrap64 ((rd t159 1) - 5000)))))) else (some false)))) else (if ((wrap64 ((wrap64 ((rd t159 0) - 5000)) * (wrap64 ((rd t159 1) - 5000)))) < (-1000000)) then (some false) else (if bt174.2 = 0 then (some (bt174.1 == (wrap64 ((wrap64 ((rd t159 0) - 5000)) * (wrap64 ((rd t159 1) - 5000)))))) else (some false)))) else (some false)) else (some false)) else (some false)) else (some false)) else (some false)) else (some false)) else (some false))))))) = some r := H
        have A8 := Aside0.mk A80
        clear A80
        replace H := Option.bind_eq_some_iff.mp H
        obtain ⟨⟨t168, t169⟩, A90, H⟩ := H
        replace H : ((impl_Calc.f k 1 (wrap64 ((rd t159 0) - 5000)) (wrap64 ((rd t159 1) - 5000))).bind fun bt170 => ((impl_Calc.f k 2 bt170.1 (wrap64 ((rd t159 1) - 5000))).bind fun bt172 => ((impl_Calc.f k 3 (wrap64 ((rd t159 0) - 5000)) (wrap64 ((rd t159 1) - 5000))).bind fun bt174 => (if (wrap64 ((wrap64 ((rd t159 0) - 5000)) * (wrap64 ((rd t159 1) - 5000)))) > 1000000 then (if t165 = 0 then (if t167 = 0 then (if t169 = 0 then (if (wrap64 ((wrap64 (t164 + t166)) + t168)) = 1 then (if bt170.2 = 0 then (if bt172.2 = 0 then (if bt172.1 = (wrap64 ((rd t159 0) - 5000)) then (if bt174.2 = 1 then (some true) else (some false)) else (some false)) else (some false)) else (some false)) else (some false)) else (some false)) else (some false)) else (some false)) else (if t165 = 0 then (if t167 = 0 then (if t169 = 0 then (if (wrap64 ((wrap64 (t164 + t166)) + t168)) = 1 then (if bt170.2 = 0 then (if bt172.2 = 0 then (if bt172.1 = (wrap64 ((rd t159 0) - 5000)) then (if (wrap64 ((wrap64 ((rd t159 0) - 5000)) * (wrap64 ((rd t159 1) - 5000)))) < (-1000000) then (if bt174.2 = 1 then (some true) else (if ((wrap64 ((wrap64 ((rd t159 0) - 5000)) * (wrap64 ((rd t159 1) - 5000)))) < (-1000000)) then (some false) else (if bt174.2 = 0 then (some (bt174.1 == (wrap64 ((wrap64 ((rd t159 0) - 5000)) * (wrap64 ((rd t159 1) - 5000)))))) else (some false)))) else (if ((wrap64 ((wrap64 ((rd t159 0) - 5000)) * (wrap64 ((rd t159 1) - 5000)))) < (-1000000)) then (some false) else (if bt174.2 = 0 then (some (bt174.1 == (wrap64 ((wrap64 ((rd t159 0) - 5000)) * (wrap64 ((rd t159 1) - 5000)))))) else (some false)))) else (some false)) else (some false)) else (some false)) else (some false)) else (some false)) else (some false)) else (some false)))))) = some r := H
        have A9 := Aside0.mk A90
        clear A90
        replace H := Option.bind_eq_some_iff.mp H
        obtain ⟨⟨t170, t171⟩, A100, H⟩ := H
        replace H : ((impl_Calc.f k 2 t170 (wrap64 ((rd t159 1) - 5000))).bind fun bt172 => ((impl_Calc.f k 3 (wrap64 ((rd t159 0) - 5000)) (wrap64 ((rd t159 1) - 5000))).bind fun bt174 => (if (wrap64 ((wrap64 ((rd t159 0) - 5000)) * (wrap64 ((rd t159 1) - 5000)))) > 1000000 then (if t165 = 0 then (if t167 = 0 then (if t169 = 0 then (if (wrap64 ((wrap64 (t164 + t166)) + t168)) = 1 then (if t171 = 0 then (if bt172.2 = 0 then (if bt172.1 = (wrap64 ((rd t159 0) - 5000)) then (if bt174.2 = 1 then (some true) else (some false)) else (some false)) else (some false)) else (some false)) else (some false)) else (some false)) else (some false)) else (some false)) else (if t165 = 0 then (if t167 = 0 then (if t169 = 0 then (if (wrap64 ((wrap64 (t164 + t166)) + t168)) = 1 then (if t171 = 0 then (if bt172.2 = 0 then (if bt172.1 = (wrap64 ((rd t159 0) - 5000)) then (if (wrap64 ((wrap64 ((rd t159 0) - 5000)) * (wrap64 ((rd t159 1) - 5000)))) < (-1000000) then (if bt174.2 = 1 then (some true) else (if ((wrap64 ((wrap64 ((rd t159 0) - 5000)) * (wrap64 ((rd t159 1) - 5000)))) < (-1000000)) then (some false) else (if bt174.2 = 0 then (some (bt174.1 == (wrap64 ((wrap64 ((rd t159 0) - 5000)) * (wrap64 ((rd t159 1) - 5000)))))) else (some false)))) else (if ((wrap64 ((wrap64 ((rd t159 0) - 5000)) * (wrap64 ((rd t159 1) - 5000)))) < (-1000000)) then (some false) else (if bt174.2 = 0 then (some (bt174.1 == (wrap64 ((wrap64 ((rd t159 0) - 5000)) * (wrap64 ((rd t159 1) - 5000)))))) else (some false)))) else (some false)) else (some false)) else (some false)) else (some false)) else (some false)) else (some false)) else (some false))))) = some r := H
        have A10 := Aside0.mk A100
        clear A100
        replace H := Option.bind_eq_some_iff.mp H
        obtain ⟨⟨t172, t173⟩, A110, H⟩ := H
        replace H : ((impl_Calc.f k 3 (wrap64 ((rd t159 0) - 5000)) (wrap64 ((rd t159 1) - 5000))).bind fun bt174 => (if (wrap64 ((wrap64 ((rd t159 0) - 5000)) * (wrap64 ((rd t159 1) - 5000)))) > 1000000 then (if t165 = 0 then (if t167 = 0 then (if t169 = 0 then (if (wrap64 ((wrap64 (t164 + t166)) + t168)) = 1 then (if t171 = 0 then (if t173 = 0 then (if t172 = (wrap64 ((rd t159 0) - 5000)) then (if bt174.2 = 1 then (some true) else (some false)) else (some false)) else (some false)) else (some false)) else (some false)) else (some false)) else (some false)) else (some false)) else (if t165 = 0 then (if t167 = 0 then (if t169 = 0 then (if (wrap64 ((wrap64 (t164 + t166)) + t168)) = 1 then (if t171 = 0 then (if t173 = 0 then (if t172 = (wrap64 ((rd t159 0) - 5000)) then (if (wrap64 ((wrap64 ((rd t159 0) - 5000)) * (wrap64 ((rd t159 1) - 5000)))) < (-1000000) then (if bt174.2 = 1 then (some true) else (if ((wrap64 ((wrap64 ((rd t159 0) - 5000)) * (wrap64 ((rd t159 1) - 5000)))) < (-1000000)) then (some false) else (if bt174.2 = 0 then (some (bt174.1 == (wrap64 ((wrap64 ((rd t159 0) - 5000)) * (wrap64 ((rd t159 1) - 5000)))))) else (some false)))) else (if ((wrap64 ((wrap64 ((rd t159 0) - 5000)) * (wrap64 ((rd t159 1) - 5000)))) < (-1000000)) then (some false) else (if bt174.2 = 0 then (some (bt174.1 == (wrap64 ((wrap64 ((rd t159 0) - 5000)) * (wrap64 ((rd t159 1) - 5000)))))) else (some false)))) else (some false)) else (some false)) else (some false)) else (some false)) else (some false)) else (some false)) else (some false)))) = some r := H
        have A11 := Aside0.mk A110
        clear A110
        replace H := Option.bind_eq_some_iff.mp H
        obtain ⟨⟨t174, t175⟩, A120, H⟩ := H
        replace H : (if (wrap64 ((wrap64 ((rd t159 0) - 5000)) * (wrap64 ((rd t159 1) - 5000)))) > 1000000 then (if t165 = 0 then (if t167 = 0 then (if t169 = 0 then (if (wrap64 ((wrap64 (t164 + t166)) + t168)) = 1 then (if t171 = 0 then (if t173 = 0 then (if t172 = (wrap64 ((rd t159 0) - 5000)) then (if t175 = 1 then (some true) else (some false)) else (some false)) else (some false)) else (some false)) else (some false)) else (some false)) else (some false)) else (some false)) else (if t165 = 0 then (if t167 = 0 then (if t169 = 0 then (if (wrap64 ((wrap64 (t164 + t166)) + t168)) = 1 then (if t171 = 0 then (if t173 = 0 then (if t172 = (wrap64 ((rd t159 0) - 5000)) then (if (wrap64 ((wrap64 ((rd t159 0) - 5000)) * (wrap64 ((rd t159 1) - 5000)))) < (-1000000) then (if t175 = 1 then (some true) else (if ((wrap64 ((wrap64 ((rd t159 0) - 5000)) * (wrap64 ((rd t159 1) - 5000)))) < (-1000000)) then (some false) else (if t175 = 0 then (some (t174 == (wrap64 ((wrap64 ((rd t159 0) - 5000)) * (wrap64 ((rd t159 1) - 5000)))))) else (some false)))) else (if ((wrap64 ((wrap64 ((rd t159 0) - 5000)) * (wrap64 ((rd t159 1) - 5000)))) < (-1000000)) then (some false) else (if t175 = 0 then (some (t174 == (wrap64 ((wrap64 ((rd t159 0) - 5000)) * (wrap64 ((rd t159 1) - 5000)))))) else (some false)))) else (some false)) else (some false)) else (some false)) else (some false)) else (some false)) else (some false)) else (some false))) = some r := H
        have A12 := Aside0.mk A120
        clear A120
        by_cases c13 : (wrap64 ((wrap64 ((rd t159 0) - 5000)) * (wrap64 ((rd t159 1) - 5000)))) > 1000000
        · rw [if_pos c13] at H
          have c13b0 : decide (1000000 < (wrap64 ((wrap64 ((rd t159 0) - 5000)) * (wrap64 ((rd t159 1) - 5000))))) = true := decide_eq_true c13
          clear c13
          by_cases c14 : t165 = 0
          · rw [if_pos c14] at H
            have c14b0 : (t165 == 0) = true := beq_iff_eq.mpr c14
            have c14b1 : (t165 != 0) = false := bne_eq_false_iff_eq.mpr c14
            clear c14
            by_cases c15 : t167 = 0
            · rw [if_pos c15] at H
              have c15b0 : (t167 == 0) = true := beq_iff_eq.mpr c15
              have c15b1 : (t167 != 0) = false := bne_eq_false_iff_eq.mpr c15
              clear c15
              by_cases c16 : t169 = 0
              · rw [if_pos c16] at H
                have c16b0 : (t169 == 0) = true := beq_iff_eq.mpr c16
                have c16b1 : (t169 != 0) = false := bne_eq_false_iff_eq.mpr c16
                clear c16
                by_cases c17 : (wrap64 ((wrap64 (t164 + t166)) + t168)) = 1
                · rw [if_pos c17] at H
                  have c17b0 : ((wrap64 ((wrap64 (t164 + t166)) + t168)) == 1) = true := beq_iff_eq.mpr c17
                  have c17b1 : ((wrap64 ((wrap64 (t164 + t166)) + t168)) != 1) = false := bne_eq_false_iff_eq.mpr c17
                  clear c17
                  by_cases c18 : t171 = 0
                  · rw [if_pos c18] at H
                    have c18b0 : (t171 == 0) = true := beq_iff_eq.mpr c18
                    have c18b1 : (t171 != 0) = false := bne_eq_false_iff_eq.mpr c18
                    clear c18
                    by_cases c19 : t173 = 0
                    · rw [if_pos c19] at H
                      have c19b0 : (t173 == 0) = true := beq_iff_eq.mpr c19
                      have c19b1 : (t173 != 0) = false := bne_eq_false_iff_eq.mpr c19
                      clear c19
                      by_cases c20 : t172 = (wrap64 ((rd t159 0) - 5000))
                      · rw [if_pos c20] at H
                        have c20b0 : (t172 == (wrap64 ((rd t159 0) - 5000))) = true := beq_iff_eq.mpr c20
                        have c20b1 : (t172 != (wrap64 ((rd t159 0) - 5000))) = false := bne_eq_false_iff_eq.mpr c20
                        clear c20
                        by_cases c21 : t175 = 1
                        · rw [if_pos c21] at H
                          have c21b0 : (t175 == 1) = true := beq_iff_eq.mpr c21
                          have c21b1 : (t175 != 1) = false := bne_eq_false_iff_eq.mpr c21
                          clear c21
                          obtain rfl := Option.some.inj H
                          go_enter Try.func9, Try.ntmps9
                          go_wp2_with (first | ((with_reducible refine gate_callee (f := 33) rfl ?_); refine goesL_ (some 20) rfl rfl Try.func33 (by kernel_rfl) rfl #[.slice A0 l0.length c0] rfl Mp_ ?_; (with_reducible refine (laws_big.calls _ _ l0 false _ ?side1 ?side2 A2.out).mono ?_); (case side1 => repeat (first | exact HR0.out | (with_reducible refine Kd.C_alloc ?_ _) | (with_reducible refine Kd.C_drewN ?_ _) | (with_reducible refine Kd.C_drew ?_))); (case side2 => exact HC0.out); rintro e w' ⟨rfl, ⟨nd, rfl⟩⟩; refine ⟨_, rfl, ?_⟩) | ((with_reducible refine gate_callee (f := 34) rfl ?_); refine goesL_ (some 22) rfl rfl Try.func34 (by kernel_rfl) rfl #[.slice A0 l0.length c0] rfl Mp_ ?_; (with_reducible refine (spec_DrawPlaces.calls k _ _ l0 t159 _ ?side1 ?side2 A4.out).mono ?_); (case side1 => repeat (first | exact HR0.out | (with_reducible refine Kd.C_alloc ?_ _) | (with_reducible refine Kd.C_drewN ?_ _) | (with_reducible refine Kd.C_drew ?_))); (case side2 => exact HC0.out); rintro e w22 ⟨v160, rfl, ho0, hb⟩; refine ⟨_, rfl, ?_⟩; have HO161 := Aside0.mk (Kd.R_lower ho0 (below_size (by repeat (first | (with_reducible first | exact HB.out | apply below_alloc | apply pw_below_drewN | apply below_drew1) | exact HB.out)))); replace HB := Hs_ HB hb; (try clear hb); (try clear hb2); (try clear hk); (try clear hi); (try clear ho0); obtain ⟨Ao23, co23, eo23⟩ := Kd.R_slice HO161.out; subst eo23; have p162 : 0 ≤ (0 : Int) := (by omega); have q162 : 0 < (t159.length : Int) := of_decide_eq_true As_; obtain ⟨ad162, e162, hx162_0⟩ := Kd.at_int (Kd.R_reads' HO161.out).2.2 0 p162 q162; cases e162; have qi162 : (0 < t159.length) = True := eq_true (by omega); (try rw [show ((0 : Int)).toNat = 0 from rfl] at hx162_0); (try rw [Addr.add_zero'] at hx162_0); replace p162 := eq_true p162; replace q162 := eq_true q162; have p163 : 0 ≤ (1 : Int) := (by omega); have q163 : 1 < (t159.length : Int) := of_decide_eq_true As_; obtain ⟨ad163, e163, hx163_0⟩ := Kd.at_int (Kd.R_reads' HO161.out).2.2 1 p163 q163; obtain rfl : ad162 = ad163 := (by injection e163); (try simp only [show (1 : Int).toNat = 1 from rfl, Nat.reduceMul, Nat.reduceEqDiff, Go.Addr.add, ↓reduceIte] at hx163_0); have qi163 : (1 < t159.length) = True := eq_true (by omega); (try rw [show ((1 : Int)).toNat = 1 from rfl] at hx163_0); replace p163 := eq_true p163; replace q163 := eq_true q163) | ((with_reducible refine gate_callee (f := 35) rfl ?_); refine goesL_ (some 34) rfl rfl Try.func35 (by kernel_rfl) rfl #[.int .i64 6, .int .i64 (wrap64 ((rd t159 0) - 5000)), .int .i64 (wrap64 ((rd t159 1) - 5000))] rfl Mp_ ?_; (with_reducible refine (impl_Calc.calls k 6 (wrap64 ((rd t159 0) - 5000)) (wrap64 ((rd t159 1) - 5000)) t164 t165 _ A7.out).mono ?_); rintro e w' ⟨rfl, ⟨nd, rfl⟩⟩; refine ⟨_, rfl, ?_⟩) | ((with_reducible refine gate_callee (f := 35) rfl ?_); refine goesL_ (some 40) rfl rfl Try.func35 (by kernel_rfl) rfl #[.int .i64 6, .int .i64 (wrap64 ((rd t159 1) - 5000)), .int .i64 (wrap64 ((rd t159 0) - 5000))] rfl Mp_ ?_; (with_reducible refine (impl_Calc.calls k 6 (wrap64 ((rd t159 1) - 5000)) (wrap64 ((rd t159 0) - 5000)) t166 t167 _ A8.out).mono ?_); rintro e w' ⟨rfl, ⟨nd, rfl⟩⟩; refine ⟨_, rfl, ?_⟩) | ((with_reducible refine gate_callee (f := 35) rfl ?_); refine goesL_ (some 46) rfl rfl Try.func35 (by kernel_rfl) rfl #[.int .i64 7, .int .i64 (wrap64 ((rd t159 0) - 5000)), .int .i64 (wrap64 ((rd t159 1) - 5000))] rfl Mp_ ?_; (with_reducible refine (impl_Calc.calls k 7 (wrap64 ((rd t159 0) - 5000)) (wrap64 ((rd t159 1) - 5000)) t168 t169 _ A9.out).mono ?_); rintro e w' ⟨rfl, ⟨nd, rfl⟩⟩; refine ⟨_, rfl, ?_⟩) | ((with_reducible refine gate_callee (f := 35) rfl ?_); refine goesL_ (some 52) rfl rfl Try.func35 (by kernel_rfl) rfl #[.int .i64 1, .int .i64 (wrap64 ((rd t159 0) - 5000)), .int .i64 (wrap64 ((rd t159 1) - 5000))] rfl Mp_ ?_; (with_reducible refine (impl_Calc.calls k 1 (wrap64 ((rd t159 0) - 5000)) (wrap64 ((rd t159 1) - 5000)) t170 t171 _ A10.out).mono ?_); rintro e w' ⟨rfl, ⟨nd, rfl⟩⟩; refine ⟨_, rfl, ?_⟩) | ((with_reducible refine gate_callee (f := 35) rfl ?_); refine goesL_ (some 58) rfl rfl Try.func35 (by kernel_rfl) rfl #[.int .i64 2, .int .i64 t170, .int .i64 (wrap64 ((rd t159 1) - 5000))] rfl Mp_ ?_; (with_reducible refine (impl_Calc.calls k 2 t170 (wrap64 ((rd t159 1) - 5000)) t172 t173 _ A11.out).mono ?_); rintro e w' ⟨rfl, ⟨nd, rfl⟩⟩; refine ⟨_, rfl, ?_⟩) | ((with_reducible refine gate_callee (f := 35) rfl ?_); refine goesL_ (some 64) rfl rfl Try.func35 (by kernel_rfl) rfl #[.int .i64 3, .int .i64 (wrap64 ((rd t159 0) - 5000)), .int .i64 (wrap64 ((rd t159 1) - 5000))] rfl Mp_ ?_; (with_reducible refine (impl_Calc.calls k 3 (wrap64 ((rd t159 0) - 5000)) (wrap64 ((rd t159 1) - 5000)) t174 t175 _ A12.out).mono ?_); rintro e w' ⟨rfl, ⟨nd, rfl⟩⟩; refine ⟨_, rfl, ?_⟩))
                          go_ret
                          exact ⟨Re_, Hf_ HB⟩
                        · rw [if_neg c21] at H
                          have c21b0 : (t175 == 1) = false := beq_eq_false_iff_ne.mpr c21
                          have c21b1 : (t175 != 1) = true := bne_iff_ne.mpr c21
                          exact absurd (Option.some.inj H) (by rw [hlaw_.out]; decide)
                      · rw [if_neg c20] at H
                        have c20b0 : (t172 == (wrap64 ((rd t159 0) - 5000))) = false := beq_eq_false_iff_ne.mpr c20
                        have c20b1 : (t172 != (wrap64 ((rd t159 0) - 5000))) = true := bne_iff_ne.mpr c20
                        exact absurd (Option.some.inj H) (by rw [hlaw_.out]; decide)
                    · rw [if_neg c19] at H
                      have c19b0 : (t173 == 0) = false := beq_eq_false_iff_ne.mpr c19
                      have c19b1 : (t173 != 0) = true := bne_iff_ne.mpr c19
                      exact absurd (Option.some.inj H) (by rw [hlaw_.out]; decide)
                  · rw [if_neg c18] at H
                    have c18b0 : (t171 == 0) = false := beq_eq_false_iff_ne.mpr c18
                    have c18b1 : (t171 != 0) = true := bne_iff_ne.mpr c18
                    exact absurd (Option.some.inj H) (by rw [hlaw_.out]; decide)
                · rw [if_neg c17] at H
                  have c17b0 : ((wrap64 ((wrap64 (t164 + t166)) + t168)) == 1) = false := beq_eq_false_iff_ne.mpr c17
                  have c17b1 : ((wrap64 ((wrap64 (t164 + t166)) + t168)) != 1) = true := bne_iff_ne.mpr c17
                  exact absurd (Option.some.inj H) (by rw [hlaw_.out]; decide)
              · rw [if_neg c16] at H
                have c16b0 : (t169 == 0) = false := beq_eq_false_iff_ne.mpr c16
                have c16b1 : (t169 != 0) = true := bne_iff_ne.mpr c16
                exact absurd (Option.some.inj H) (by rw [hlaw_.out]; decide)
            · rw [if_neg c15] at H
              have c15b0 : (t167 == 0) = false := beq_eq_false_iff_ne.mpr c15
              have c15b1 : (t167 != 0) = true := bne_iff_ne.mpr c15
              exact absurd (Option.some.inj H) (by rw [hlaw_.out]; decide)
          · rw [if_neg c14] at H
            have c14b0 : (t165 == 0) = false := beq_eq_false_iff_ne.mpr c14
            have c14b1 : (t165 != 0) = true := bne_iff_ne.mpr c14
            exact absurd (Option.some.inj H) (by rw [hlaw_.out]; decide)
        · rw [if_neg c13] at H
          have c13b0 : decide (1000000 < (wrap64 ((wrap64 ((rd t159 0) - 5000)) * (wrap64 ((rd t159 1) - 5000))))) = false := decide_eq_false c13
          clear c13
          by_cases c24 : t165 = 0
          · rw [if_pos c24] at H
            have c24b0 : (t165 == 0) = true := beq_iff_eq.mpr c24
            have c24b1 : (t165 != 0) = false := bne_eq_false_iff_eq.mpr c24
            clear c24
            by_cases c25 : t167 = 0
            · rw [if_pos c25] at H
              have c25b0 : (t167 == 0) = true := beq_iff_eq.mpr c25
              have c25b1 : (t167 != 0) = false := bne_eq_false_iff_eq.mpr c25
              clear c25
              by_cases c26 : t169 = 0
              · rw [if_pos c26] at H
                have c26b0 : (t169 == 0) = true := beq_iff_eq.mpr c26
                have c26b1 : (t169 != 0) = false := bne_eq_false_iff_eq.mpr c26
                clear c26
                by_cases c27 : (wrap64 ((wrap64 (t164 + t166)) + t168)) = 1
                · rw [if_pos c27] at H
                  have c27b0 : ((wrap64 ((wrap64 (t164 + t166)) + t168)) == 1) = true := beq_iff_eq.mpr c27
                  have c27b1 : ((wrap64 ((wrap64 (t164 + t166)) + t168)) != 1) = false := bne_eq_false_iff_eq.mpr c27
                  clear c27
                  by_cases c28 : t171 = 0
                  · rw [if_pos c28] at H
                    have c28b0 : (t171 == 0) = true := beq_iff_eq.mpr c28
                    have c28b1 : (t171 != 0) = false := bne_eq_false_iff_eq.mpr c28
                    clear c28
                    by_cases c29 : t173 = 0
                    · rw [if_pos c29] at H
                      have c29b0 : (t173 == 0) = true := beq_iff_eq.mpr c29
                      have c29b1 : (t173 != 0) = false := bne_eq_false_iff_eq.mpr c29
                      clear c29
                      by_cases c30 : t172 = (wrap64 ((rd t159 0) - 5000))
                      · rw [if_pos c30] at H
                        have c30b0 : (t172 == (wrap64 ((rd t159 0) - 5000))) = true := beq_iff_eq.mpr c30
                        have c30b1 : (t172 != (wrap64 ((rd t159 0) - 5000))) = false := bne_eq_false_iff_eq.mpr c30
                        clear c30
                        by_cases c31 : (wrap64 ((wrap64 ((rd t159 0) - 5000)) * (wrap64 ((rd t159 1) - 5000)))) < (-1000000)
                        · rw [if_pos c31] at H
                          have c31b0 : decide ((wrap64 ((wrap64 ((rd t159 0) - 5000)) * (wrap64 ((rd t159 1) - 5000)))) < (-1000000)) = true := decide_eq_true c31
                          clear c31
                          by_cases c32 : t175 = 1
                          · rw [if_pos c32] at H
                            have c32b0 : (t175 == 1) = true := beq_iff_eq.mpr c32
                            have c32b1 : (t175 != 1) = false := bne_eq_false_iff_eq.mpr c32
                            clear c32
                            obtain rfl := Option.some.inj H
                            go_enter Try.func9, Try.ntmps9
                            go_wp2_with (first | ((with_reducible refine gate_callee (f := 33) rfl ?_); refine goesL_ (some 20) rfl rfl Try.func33 (by kernel_rfl) rfl #[.slice A0 l0.length c0] rfl Mp_ ?_; (with_reducible refine (laws_big.calls _ _ l0 false _ ?side1 ?side2 A2.out).mono ?_); (case side1 => repeat (first | exact HR0.out | (with_reducible refine Kd.C_alloc ?_ _) | (with_reducible refine Kd.C_drewN ?_ _) | (with_reducible refine Kd.C_drew ?_))); (case side2 => exact HC0.out); rintro e w' ⟨rfl, ⟨nd, rfl⟩⟩; refine ⟨_, rfl, ?_⟩) | ((with_reducible refine gate_callee (f := 34) rfl ?_); refine goesL_ (some 22) rfl rfl Try.func34 (by kernel_rfl) rfl #[.slice A0 l0.length c0] rfl Mp_ ?_; (with_reducible refine (spec_DrawPlaces.calls k _ _ l0 t159 _ ?side1 ?side2 A4.out).mono ?_); (case side1 => repeat (first | exact HR0.out | (with_reducible refine Kd.C_alloc ?_ _) | (with_reducible refine Kd.C_drewN ?_ _) | (with_reducible refine Kd.C_drew ?_))); (case side2 => exact HC0.out); rintro e w33 ⟨v160, rfl, ho0, hb⟩; refine ⟨_, rfl, ?_⟩; have HO161 := Aside0.mk (Kd.R_lower ho0 (below_size (by repeat (first | (with_reducible first | exact HB.out | apply below_alloc | apply pw_below_drewN | apply below_drew1) | exact HB.out)))); replace HB := Hs_ HB hb; (try clear hb); (try clear hb2); (try clear hk); (try clear hi); (try clear ho0); obtain ⟨Ao34, co34, eo34⟩ := Kd.R_slice HO161.out; subst eo34; have p162 : 0 ≤ (0 : Int) := (by omega); have q162 : 0 < (t159.length : Int) := of_decide_eq_true As_; obtain ⟨ad162, e162, hx162_0⟩ := Kd.at_int (Kd.R_reads' HO161.out).2.2 0 p162 q162; cases e162; have qi162 : (0 < t159.length) = True := eq_true (by omega); (try rw [show ((0 : Int)).toNat = 0 from rfl] at hx162_0); (try rw [Addr.add_zero'] at hx162_0); replace p162 := eq_true p162; replace q162 := eq_true q162; have p163 : 0 ≤ (1 : Int) := (by omega); have q163 : 1 < (t159.length : Int) := of_decide_eq_true As_; obtain ⟨ad163, e163, hx163_0⟩ := Kd.at_int (Kd.R_reads' HO161.out).2.2 1 p163 q163; obtain rfl : ad162 = ad163 := (by injection e163); (try simp only [show (1 : Int).toNat = 1 from rfl, Nat.reduceMul, Nat.reduceEqDiff, Go.Addr.add, ↓reduceIte] at hx163_0); have qi163 : (1 < t159.length) = True := eq_true (by omega); (try rw [show ((1 : Int)).toNat = 1 from rfl] at hx163_0); replace p163 := eq_true p163; replace q163 := eq_true q163) | ((with_reducible refine gate_callee (f := 35) rfl ?_); refine goesL_ (some 34) rfl rfl Try.func35 (by kernel_rfl) rfl #[.int .i64 6, .int .i64 (wrap64 ((rd t159 0) - 5000)), .int .i64 (wrap64 ((rd t159 1) - 5000))] rfl Mp_ ?_; (with_reducible refine (impl_Calc.calls k 6 (wrap64 ((rd t159 0) - 5000)) (wrap64 ((rd t159 1) - 5000)) t164 t165 _ A7.out).mono ?_); rintro e w' ⟨rfl, ⟨nd, rfl⟩⟩; refine ⟨_, rfl, ?_⟩) | ((with_reducible refine gate_callee (f := 35) rfl ?_); refine goesL_ (some 40) rfl rfl Try.func35 (by kernel_rfl) rfl #[.int .i64 6, .int .i64 (wrap64 ((rd t159 1) - 5000)), .int .i64 (wrap64 ((rd t159 0) - 5000))] rfl Mp_ ?_; (with_reducible refine (impl_Calc.calls k 6 (wrap64 ((rd t159 1) - 5000)) (wrap64 ((rd t159 0) - 5000)) t166 t167 _ A8.out).mono ?_); rintro e w' ⟨rfl, ⟨nd, rfl⟩⟩; refine ⟨_, rfl, ?_⟩) | ((with_reducible refine gate_callee (f := 35) rfl ?_); refine goesL_ (some 46) rfl rfl Try.func35 (by kernel_rfl) rfl #[.int .i64 7, .int .i64 (wrap64 ((rd t159 0) - 5000)), .int .i64 (wrap64 ((rd t159 1) - 5000))] rfl Mp_ ?_; (with_reducible refine (impl_Calc.calls k 7 (wrap64 ((rd t159 0) - 5000)) (wrap64 ((rd t159 1) - 5000)) t168 t169 _ A9.out).mono ?_); rintro e w' ⟨rfl, ⟨nd, rfl⟩⟩; refine ⟨_, rfl, ?_⟩) | ((with_reducible refine gate_callee (f := 35) rfl ?_); refine goesL_ (some 52) rfl rfl Try.func35 (by kernel_rfl) rfl #[.int .i64 1, .int .i64 (wrap64 ((rd t159 0) - 5000)), .int .i64 (wrap64 ((rd t159 1) - 5000))] rfl Mp_ ?_; (with_reducible refine (impl_Calc.calls k 1 (wrap64 ((rd t159 0) - 5000)) (wrap64 ((rd t159 1) - 5000)) t170 t171 _ A10.out).mono ?_); rintro e w' ⟨rfl, ⟨nd, rfl⟩⟩; refine ⟨_, rfl, ?_⟩) | ((with_reducible refine gate_callee (f := 35) rfl ?_); refine goesL_ (some 58) rfl rfl Try.func35 (by kernel_rfl) rfl #[.int .i64 2, .int .i64 t170, .int .i64 (wrap64 ((rd t159 1) - 5000))] rfl Mp_ ?_; (with_reducible refine (impl_Calc.calls k 2 t170 (wrap64 ((rd t159 1) - 5000)) t172 t173 _ A11.out).mono ?_); rintro e w' ⟨rfl, ⟨nd, rfl⟩⟩; refine ⟨_, rfl, ?_⟩) | ((with_reducible refine gate_callee (f := 35) rfl ?_); refine goesL_ (some 64) rfl rfl Try.func35 (by kernel_rfl) rfl #[.int .i64 3, .int .i64 (wrap64 ((rd t159 0) - 5000)), .int .i64 (wrap64 ((rd t159 1) - 5000))] rfl Mp_ ?_; (with_reducible refine (impl_Calc.calls k 3 (wrap64 ((rd t159 0) - 5000)) (wrap64 ((rd t159 1) - 5000)) t174 t175 _ A12.out).mono ?_); rintro e w' ⟨rfl, ⟨nd, rfl⟩⟩; refine ⟨_, rfl, ?_⟩))
                            go_ret
                            exact ⟨Re_, Hf_ HB⟩
                          · rw [if_neg c32] at H
                            have c32b0 : (t175 == 1) = false := beq_eq_false_iff_ne.mpr c32
                            have c32b1 : (t175 != 1) = true := bne_iff_ne.mpr c32
                            by_cases c35 : ((wrap64 ((wrap64 ((rd t159 0) - 5000)) * (wrap64 ((rd t159 1) - 5000)))) < (-1000000))
                            · rw [if_pos c35] at H
                              have c35b0 : decide ((wrap64 ((wrap64 ((rd t159 0) - 5000)) * (wrap64 ((rd t159 1) - 5000)))) < (-1000000)) = true := decide_eq_true c35
                              clear c35
                              exact absurd (Option.some.inj H) (by rw [hlaw_.out]; decide)
                            · rw [if_neg c35] at H
                              have c35b0 : decide ((wrap64 ((wrap64 ((rd t159 0) - 5000)) * (wrap64 ((rd t159 1) - 5000)))) < (-1000000)) = false := decide_eq_false c35
                              clear c35
                              by_cases c36 : t175 = 0
                              · rw [if_pos c36] at H
                                have c36b0 : (t175 == 0) = true := beq_iff_eq.mpr c36
                                have c36b1 : (t175 != 0) = false := bne_eq_false_iff_eq.mpr c36
                                clear c36
                                obtain rfl := Option.some.inj H
                                go_enter Try.func9, Try.ntmps9
                                go_wp2_with (first | ((with_reducible refine gate_callee (f := 33) rfl ?_); refine goesL_ (some 20) rfl rfl Try.func33 (by kernel_rfl) rfl #[.slice A0 l0.length c0] rfl Mp_ ?_; (with_reducible refine (laws_big.calls _ _ l0 false _ ?side1 ?side2 A2.out).mono ?_); (case side1 => repeat (first | exact HR0.out | (with_reducible refine Kd.C_alloc ?_ _) | (with_reducible refine Kd.C_drewN ?_ _) | (with_reducible refine Kd.C_drew ?_))); (case side2 => exact HC0.out); rintro e w' ⟨rfl, ⟨nd, rfl⟩⟩; refine ⟨_, rfl, ?_⟩) | ((with_reducible refine gate_callee (f := 34) rfl ?_); refine goesL_ (some 22) rfl rfl Try.func34 (by kernel_rfl) rfl #[.slice A0 l0.length c0] rfl Mp_ ?_; (with_reducible refine (spec_DrawPlaces.calls k _ _ l0 t159 _ ?side1 ?side2 A4.out).mono ?_); (case side1 => repeat (first | exact HR0.out | (with_reducible refine Kd.C_alloc ?_ _) | (with_reducible refine Kd.C_drewN ?_ _) | (with_reducible refine Kd.C_drew ?_))); (case side2 => exact HC0.out); rintro e w37 ⟨v160, rfl, ho0, hb⟩; refine ⟨_, rfl, ?_⟩; have HO161 := Aside0.mk (Kd.R_lower ho0 (below_size (by repeat (first | (with_reducible first | exact HB.out | apply below_alloc | apply pw_below_drewN | apply below_drew1) | exact HB.out)))); replace HB := Hs_ HB hb; (try clear hb); (try clear hb2); (try clear hk); (try clear hi); (try clear ho0); obtain ⟨Ao38, co38, eo38⟩ := Kd.R_slice HO161.out; subst eo38; have p162 : 0 ≤ (0 : Int) := (by omega); have q162 : 0 < (t159.length : Int) := of_decide_eq_true As_; obtain ⟨ad162, e162, hx162_0⟩ := Kd.at_int (Kd.R_reads' HO161.out).2.2 0 p162 q162; cases e162; have qi162 : (0 < t159.length) = True := eq_true (by omega); (try rw [show ((0 : Int)).toNat = 0 from rfl] at hx162_0); (try rw [Addr.add_zero'] at hx162_0); replace p162 := eq_true p162; replace q162 := eq_true q162; have p163 : 0 ≤ (1 : Int) := (by omega); have q163 : 1 < (t159.length : Int) := of_decide_eq_true As_; obtain ⟨ad163, e163, hx163_0⟩ := Kd.at_int (Kd.R_reads' HO161.out).2.2 1 p163 q163; obtain rfl : ad162 = ad163 := (by injection e163); (try simp only [show (1 : Int).toNat = 1 from rfl, Nat.reduceMul, Nat.reduceEqDiff, Go.Addr.add, ↓reduceIte] at hx163_0); have qi163 : (1 < t159.length) = True := eq_true (by omega); (try rw [show ((1 : Int)).toNat = 1 from rfl] at hx163_0); replace p163 := eq_true p163; replace q163 := eq_true q163) | ((with_reducible refine gate_callee (f := 35) rfl ?_); refine goesL_ (some 34) rfl rfl Try.func35 (by kernel_rfl) rfl #[.int .i64 6, .int .i64 (wrap64 ((rd t159 0) - 5000)), .int .i64 (wrap64 ((rd t159 1) - 5000))] rfl Mp_ ?_; (with_reducible refine (impl_Calc.calls k 6 (wrap64 ((rd t159 0) - 5000)) (wrap64 ((rd t159 1) - 5000)) t164 t165 _ A7.out).mono ?_); rintro e w' ⟨rfl, ⟨nd, rfl⟩⟩; refine ⟨_, rfl, ?_⟩) | ((with_reducible refine gate_callee (f := 35) rfl ?_); refine goesL_ (some 40) rfl rfl Try.func35 (by kernel_rfl) rfl #[.int .i64 6, .int .i64 (wrap64 ((rd t159 1) - 5000)), .int .i64 (wrap64 ((rd t159 0) - 5000))] rfl Mp_ ?_; (with_reducible refine (impl_Calc.calls k 6 (wrap64 ((rd t159 1) - 5000)) (wrap64 ((rd t159 0) - 5000)) t166 t167 _ A8.out).mono ?_); rintro e w' ⟨rfl, ⟨nd, rfl⟩⟩; refine ⟨_, rfl, ?_⟩) | ((with_reducible refine gate_callee (f := 35) rfl ?_); refine goesL_ (some 46) rfl rfl Try.func35 (by kernel_rfl) rfl #[.int .i64 7, .int .i64 (wrap64 ((rd t159 0) - 5000)), .int .i64 (wrap64 ((rd t159 1) - 5000))] rfl Mp_ ?_; (with_reducible refine (impl_Calc.calls k 7 (wrap64 ((rd t159 0) - 5000)) (wrap64 ((rd t159 1) - 5000)) t168 t169 _ A9.out).mono ?_); rintro e w' ⟨rfl, ⟨nd, rfl⟩⟩; refine ⟨_, rfl, ?_⟩) | ((with_reducible refine gate_callee (f := 35) rfl ?_); refine goesL_ (some 52) rfl rfl Try.func35 (by kernel_rfl) rfl #[.int .i64 1, .int .i64 (wrap64 ((rd t159 0) - 5000)), .int .i64 (wrap64 ((rd t159 1) - 5000))] rfl Mp_ ?_; (with_reducible refine (impl_Calc.calls k 1 (wrap64 ((rd t159 0) - 5000)) (wrap64 ((rd t159 1) - 5000)) t170 t171 _ A10.out).mono ?_); rintro e w' ⟨rfl, ⟨nd, rfl⟩⟩; refine ⟨_, rfl, ?_⟩) | ((with_reducible refine gate_callee (f := 35) rfl ?_); refine goesL_ (some 58) rfl rfl Try.func35 (by kernel_rfl) rfl #[.int .i64 2, .int .i64 t170, .int .i64 (wrap64 ((rd t159 1) - 5000))] rfl Mp_ ?_; (with_reducible refine (impl_Calc.calls k 2 t170 (wrap64 ((rd t159 1) - 5000)) t172 t173 _ A11.out).mono ?_); rintro e w' ⟨rfl, ⟨nd, rfl⟩⟩; refine ⟨_, rfl, ?_⟩) | ((with_reducible refine gate_callee (f := 35) rfl ?_); refine goesL_ (some 64) rfl rfl Try.func35 (by kernel_rfl) rfl #[.int .i64 3, .int .i64 (wrap64 ((rd t159 0) - 5000)), .int .i64 (wrap64 ((rd t159 1) - 5000))] rfl Mp_ ?_; (with_reducible refine (impl_Calc.calls k 3 (wrap64 ((rd t159 0) - 5000)) (wrap64 ((rd t159 1) - 5000)) t174 t175 _ A12.out).mono ?_); rintro e w' ⟨rfl, ⟨nd, rfl⟩⟩; refine ⟨_, rfl, ?_⟩))
                                go_ret
                                exact ⟨Re_, Hf_ HB⟩
                              · rw [if_neg c36] at H
                                have c36b0 : (t175 == 0) = false := beq_eq_false_iff_ne.mpr c36
                                have c36b1 : (t175 != 0) = true := bne_iff_ne.mpr c36
                                exact absurd (Option.some.inj H) (by rw [hlaw_.out]; decide)
                        · rw [if_neg c31] at H
                          have c31b0 : decide ((wrap64 ((wrap64 ((rd t159 0) - 5000)) * (wrap64 ((rd t159 1) - 5000)))) < (-1000000)) = false := decide_eq_false c31
                          clear c31
                          by_cases c39 : ((wrap64 ((wrap64 ((rd t159 0) - 5000)) * (wrap64 ((rd t159 1) - 5000)))) < (-1000000))
                          · rw [if_pos c39] at H
                            have c39b0 : decide ((wrap64 ((wrap64 ((rd t159 0) - 5000)) * (wrap64 ((rd t159 1) - 5000)))) < (-1000000)) = true := decide_eq_true c39
                            clear c39
                            exact absurd (Option.some.inj H) (by rw [hlaw_.out]; decide)
                          · rw [if_neg c39] at H
                            have c39b0 : decide ((wrap64 ((wrap64 ((rd t159 0) - 5000)) * (wrap64 ((rd t159 1) - 5000)))) < (-1000000)) = false := decide_eq_false c39
                            clear c39
                            by_cases c40 : t175 = 0
                            · rw [if_pos c40] at H
                              have c40b0 : (t175 == 0) = true := beq_iff_eq.mpr c40
                              have c40b1 : (t175 != 0) = false := bne_eq_false_iff_eq.mpr c40
                              clear c40
                              obtain rfl := Option.some.inj H
                              go_enter Try.func9, Try.ntmps9
                              go_wp2_with (first | ((with_reducible refine gate_callee (f := 33) rfl ?_); refine goesL_ (some 20) rfl rfl Try.func33 (by kernel_rfl) rfl #[.slice A0 l0.length c0] rfl Mp_ ?_; (with_reducible refine (laws_big.calls _ _ l0 false _ ?side1 ?side2 A2.out).mono ?_); (case side1 => repeat (first | exact HR0.out | (with_reducible refine Kd.C_alloc ?_ _) | (with_reducible refine Kd.C_drewN ?_ _) | (with_reducible refine Kd.C_drew ?_))); (case side2 => exact HC0.out); rintro e w' ⟨rfl, ⟨nd, rfl⟩⟩; refine ⟨_, rfl, ?_⟩) | ((with_reducible refine gate_callee (f := 34) rfl ?_); refine goesL_ (some 22) rfl rfl Try.func34 (by kernel_rfl) rfl #[.slice A0 l0.length c0] rfl Mp_ ?_; (with_reducible refine (spec_DrawPlaces.calls k _ _ l0 t159 _ ?side1 ?side2 A4.out).mono ?_); (case side1 => repeat (first | exact HR0.out | (with_reducible refine Kd.C_alloc ?_ _) | (with_reducible refine Kd.C_drewN ?_ _) | (with_reducible refine Kd.C_drew ?_))); (case side2 => exact HC0.out); rintro e w41 ⟨v160, rfl, ho0, hb⟩; refine ⟨_, rfl, ?_⟩; have HO161 := Aside0.mk (Kd.R_lower ho0 (below_size (by repeat (first | (with_reducible first | exact HB.out | apply below_alloc | apply pw_below_drewN | apply below_drew1) | exact HB.out)))); replace HB := Hs_ HB hb; (try clear hb); (try clear hb2); (try clear hk); (try clear hi); (try clear ho0); obtain ⟨Ao42, co42, eo42⟩ := Kd.R_slice HO161.out; subst eo42; have p162 : 0 ≤ (0 : Int) := (by omega); have q162 : 0 < (t159.length : Int) := of_decide_eq_true As_; obtain ⟨ad162, e162, hx162_0⟩ := Kd.at_int (Kd.R_reads' HO161.out).2.2 0 p162 q162; cases e162; have qi162 : (0 < t159.length) = True := eq_true (by omega); (try rw [show ((0 : Int)).toNat = 0 from rfl] at hx162_0); (try rw [Addr.add_zero'] at hx162_0); replace p162 := eq_true p162; replace q162 := eq_true q162; have p163 : 0 ≤ (1 : Int) := (by omega); have q163 : 1 < (t159.length : Int) := of_decide_eq_true As_; obtain ⟨ad163, e163, hx163_0⟩ := Kd.at_int (Kd.R_reads' HO161.out).2.2 1 p163 q163; obtain rfl : ad162 = ad163 := (by injection e163); (try simp only [show (1 : Int).toNat = 1 from rfl, Nat.reduceMul, Nat.reduceEqDiff, Go.Addr.add, ↓reduceIte] at hx163_0); have qi163 : (1 < t159.length) = True := eq_true (by omega); (try rw [show ((1 : Int)).toNat = 1 from rfl] at hx163_0); replace p163 := eq_true p163; replace q163 := eq_true q163) | ((with_reducible refine gate_callee (f := 35) rfl ?_); refine goesL_ (some 34) rfl rfl Try.func35 (by kernel_rfl) rfl #[.int .i64 6, .int .i64 (wrap64 ((rd t159 0) - 5000)), .int .i64 (wrap64 ((rd t159 1) - 5000))] rfl Mp_ ?_; (with_reducible refine (impl_Calc.calls k 6 (wrap64 ((rd t159 0) - 5000)) (wrap64 ((rd t159 1) - 5000)) t164 t165 _ A7.out).mono ?_); rintro e w' ⟨rfl, ⟨nd, rfl⟩⟩; refine ⟨_, rfl, ?_⟩) | ((with_reducible refine gate_callee (f := 35) rfl ?_); refine goesL_ (some 40) rfl rfl Try.func35 (by kernel_rfl) rfl #[.int .i64 6, .int .i64 (wrap64 ((rd t159 1) - 5000)), .int .i64 (wrap64 ((rd t159 0) - 5000))] rfl Mp_ ?_; (with_reducible refine (impl_Calc.calls k 6 (wrap64 ((rd t159 1) - 5000)) (wrap64 ((rd t159 0) - 5000)) t166 t167 _ A8.out).mono ?_); rintro e w' ⟨rfl, ⟨nd, rfl⟩⟩; refine ⟨_, rfl, ?_⟩) | ((with_reducible refine gate_callee (f := 35) rfl ?_); refine goesL_ (some 46) rfl rfl Try.func35 (by kernel_rfl) rfl #[.int .i64 7, .int .i64 (wrap64 ((rd t159 0) - 5000)), .int .i64 (wrap64 ((rd t159 1) - 5000))] rfl Mp_ ?_; (with_reducible refine (impl_Calc.calls k 7 (wrap64 ((rd t159 0) - 5000)) (wrap64 ((rd t159 1) - 5000)) t168 t169 _ A9.out).mono ?_); rintro e w' ⟨rfl, ⟨nd, rfl⟩⟩; refine ⟨_, rfl, ?_⟩) | ((with_reducible refine gate_callee (f := 35) rfl ?_); refine goesL_ (some 52) rfl rfl Try.func35 (by kernel_rfl) rfl #[.int .i64 1, .int .i64 (wrap64 ((rd t159 0) - 5000)), .int .i64 (wrap64 ((rd t159 1) - 5000))] rfl Mp_ ?_; (with_reducible refine (impl_Calc.calls k 1 (wrap64 ((rd t159 0) - 5000)) (wrap64 ((rd t159 1) - 5000)) t170 t171 _ A10.out).mono ?_); rintro e w' ⟨rfl, ⟨nd, rfl⟩⟩; refine ⟨_, rfl, ?_⟩) | ((with_reducible refine gate_callee (f := 35) rfl ?_); refine goesL_ (some 58) rfl rfl Try.func35 (by kernel_rfl) rfl #[.int .i64 2, .int .i64 t170, .int .i64 (wrap64 ((rd t159 1) - 5000))] rfl Mp_ ?_; (with_reducible refine (impl_Calc.calls k 2 t170 (wrap64 ((rd t159 1) - 5000)) t172 t173 _ A11.out).mono ?_); rintro e w' ⟨rfl, ⟨nd, rfl⟩⟩; refine ⟨_, rfl, ?_⟩) | ((with_reducible refine gate_callee (f := 35) rfl ?_); refine goesL_ (some 64) rfl rfl Try.func35 (by kernel_rfl) rfl #[.int .i64 3, .int .i64 (wrap64 ((rd t159 0) - 5000)), .int .i64 (wrap64 ((rd t159 1) - 5000))] rfl Mp_ ?_; (with_reducible refine (impl_Calc.calls k 3 (wrap64 ((rd t159 0) - 5000)) (wrap64 ((rd t159 1) - 5000)) t174 t175 _ A12.out).mono ?_); rintro e w' ⟨rfl, ⟨nd, rfl⟩⟩; refine ⟨_, rfl, ?_⟩))
                              go_ret
                              exact ⟨Re_, Hf_ HB⟩
                            · rw [if_neg c40] at H
                              have c40b0 : (t175 == 0) = false := beq_eq_false_iff_ne.mpr c40
                              have c40b1 : (t175 != 0) = true := bne_iff_ne.mpr c40
                              exact absurd (Option.some.inj H) (by rw [hlaw_.out]; decide)
                      · rw [if_neg c30] at H
                        have c30b0 : (t172 == (wrap64 ((rd t159 0) - 5000))) = false := beq_eq_false_iff_ne.mpr c30
                        have c30b1 : (t172 != (wrap64 ((rd t159 0) - 5000))) = true := bne_iff_ne.mpr c30
                        exact absurd (Option.some.inj H) (by rw [hlaw_.out]; decide)
                    · rw [if_neg c29] at H
                      have c29b0 : (t173 == 0) = false := beq_eq_false_iff_ne.mpr c29
                      have c29b1 : (t173 != 0) = true := bne_iff_ne.mpr c29
                      exact absurd (Option.some.inj H) (by rw [hlaw_.out]; decide)
                  · rw [if_neg c28] at H
                    have c28b0 : (t171 == 0) = false := beq_eq_false_iff_ne.mpr c28
                    have c28b1 : (t171 != 0) = true := bne_iff_ne.mpr c28
                    exact absurd (Option.some.inj H) (by rw [hlaw_.out]; decide)
                · rw [if_neg c27] at H
                  have c27b0 : ((wrap64 ((wrap64 (t164 + t166)) + t168)) == 1) = false := beq_eq_false_iff_ne.mpr c27
                  have c27b1 : ((wrap64 ((wrap64 (t164 + t166)) + t168)) != 1) = true := bne_iff_ne.mpr c27
                  exact absurd (Option.some.inj H) (by rw [hlaw_.out]; decide)
              · rw [if_neg c26] at H
                have c26b0 : (t169 == 0) = false := beq_eq_false_iff_ne.mpr c26
                have c26b1 : (t169 != 0) = true := bne_iff_ne.mpr c26
                exact absurd (Option.some.inj H) (by rw [hlaw_.out]; decide)
            · rw [if_neg c25] at H
              have c25b0 : (t167 == 0) = false := beq_eq_false_iff_ne.mpr c25
              have c25b1 : (t167 != 0) = true := bne_iff_ne.mpr c25
              exact absurd (Option.some.inj H) (by rw [hlaw_.out]; decide)
          · rw [if_neg c24] at H
            have c24b0 : (t165 == 0) = false := beq_eq_false_iff_ne.mpr c24
            have c24b1 : (t165 != 0) = true := bne_iff_ne.mpr c24
            exact absurd (Option.some.inj H) (by rw [hlaw_.out]; decide)
      · rw [if_neg c6] at H
        exact absurd H (by simp)
    · rw [if_neg c5] at H
      exact absurd H (by simp)

/-- THE ONE PURE STATEMENT of laws_FnOrders: yours. -/
def laws_FnOrders.Pure : Prop := ∀ (l0 : List Int), l0.length ≤ maxLen → l0.length * 1 ≤ 140737488351232 → (∀ x ∈ l0, (Lit.int .u8 x).wf = true) → ∃ k, laws_FnOrders.f k l0 = some true
theorem laws_FnOrders.walk (P : laws_FnOrders.Pure) (a0 : Option Addr) (len0 cap0 : Nat) (z0 : List Int) (w : World) (w0 : (a0 = none ∧ len0 = 0 ∧ cap0 = 0 ∧ z0 = []) ∨ ∃ x, a0 = some x ∧ len0 ≤ cap0 ∧ cap0 ≤ maxLen ∧ z0.length = cap0 ∧ (∀ i, i < z0.length → w.cell? (x.add i) = some (.int .u8 (z0.getD i 0))) ∧ ∀ n ∈ z0, (Lit.int .u8 n).wf = true) (y0 : len0 * 1 ≤ 140737488351232) :
    Calls Try.prog 9 #[.slice a0 len0 cap0] w fun e w' => e = .returned (.bool true) ∧ Below w.heap.size w w' := by
  obtain ⟨l0, rfl, hr0, hm0, hw0, hc0⟩ := ReadsInt.ofRowC w0
  obtain ⟨k, h⟩ := P l0 hm0 y0 hw0
  refine (laws_FnOrders.calls k _ _ l0 true w (Kd.C_of_reads (d := (0 : Int)) (h1 := fun _ => rfl) hr0) hc0 ⟨rfl⟩ h).mono ?_
  rintro e w' ⟨rfl, hd⟩
  exact ⟨rfl, hd⟩

end Go.Proofs.Ytfgobagibkbocaa.PFnOrders
