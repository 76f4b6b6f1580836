/- The machine side of the law FnExactValueOf: for each function that it reaches, a Lean function and its contract. Written by a program of this session's over the kit's print. No condition. -/
import Derived.Test.YtmbkcbgbienjoaaCmq
import Derived.Test.YtmbkcbgbienjoaaPFnExactValueOfx0
import Derived.Test.YtmbkcbgbienjoaaPFnExactValueOfx7
import Derived.Test.YtmbkcbgbienjoaaPFnExactValueOfx8
namespace Go.Proofs.Ytmbkcbgbienjoaa.PFnExactValueOf
open Go.RowKit Go.Proofs.YtmbkcbgbienjoaaW.PrintWords Go.Proofs.YtmbkcbgbienjoaaW.PrintLast Go.Proofs.YtmbkcbgbienjoaaW.PrintMore Go.Proofs.Ytmbkcbgbienjoaa.Cmp
attribute [local go_sem] max2_int min2_int max_two min_two max_three min_three max_four min_four   -- for this text's walks alone
set_option linter.unusedVariables false
set_option maxHeartbeats 8000000
set_option maxRecDepth 100000
set_option linter.unusedSimpArgs false

/-! ### spec_l05Kids: function 76 -/
mutual
def spec_l05Kids.j0 : Nat → Int → Int → Int → Bool → List (S77) → List (S106) → List (S103) → Option (Bool)
 | 0, _, _, _, _, _, _, _ => none
 | k + 1, x1, x5, x19, x20, x277000, x277001, x277002 => if x20 = true then (some (x5 == 0)) else (if x19 = 3 then (if x5 = 2 then ((spec_l05Values.f k x277000 x277001 x277002 x1 2).bind fun t279 => (some t279)) else (some false)) else (if x19 = 4 then (spec_l05Kids.j1 k x1 x5 x19 (x19 == 4) x277000 x277001 x277002) else (if x19 = 5 then (spec_l05Kids.j1 k x1 x5 x19 (x19 == 5) x277000 x277001 x277002) else (if x19 = 11 then (spec_l05Kids.j1 k x1 x5 x19 (x19 == 11) x277000 x277001 x277002) else (if x19 = 14 then (spec_l05Kids.j1 k x1 x5 x19 (x19 == 14) x277000 x277001 x277002) else (spec_l05Kids.j1 k x1 x5 x19 (x19 == 15) x277000 x277001 x277002))))))
def spec_l05Kids.j1 : Nat → Int → Int → Int → Bool → List (S77) → List (S106) → List (S103) → Option (Bool)
 | 0, _, _, _, _, _, _, _ => none
 | k + 1, x1, x5, x19, x38, x277000, x277001, x277002 => if x38 = true then (if x5 = 1 then ((spec_l05Values.f k x277000 x277001 x277002 x1 1).bind fun t280 => (some t280)) else (some false)) else (if x19 = 12 then (if x5 = 2 then ((spec_l05Values.f k x277000 x277001 x277002 x1 1).bind fun t281 => (if t281 = true then ((spec_l05Blocks.f k x277000 x277001 x277002 x1 1).bind fun t282 => (some t282)) else (some false))) else (if x5 = 3 then ((spec_l05Values.f k x277000 x277001 x277002 x1 1).bind fun t283 => (if t283 = true then ((spec_l05Blocks.f k x277000 x277001 x277002 x1 1).bind fun t284 => (some t284)) else (some false))) else (some false))) else (if x19 = 13 then (if x5 = 2 then ((spec_l05Values.f k x277000 x277001 x277002 x1 1).bind fun t285 => (if t285 = true then ((spec_l05Blocks.f k x277000 x277001 x277002 x1 1).bind fun t286 => (some t286)) else (some false))) else (some false)) else (spec_l05Kids.l0 k x1 x5 0 x277000 x277001 x277002)))
def spec_l05Kids.l0 : Nat → Int → Int → Int → List (S77) → List (S106) → List (S103) → Option (Bool)
 | 0, _, _, _, _, _, _ => none
 | k + 1, x1, x5, x6, x277000, x277001, x277002 => if x6 < x5 then ((spec_l05Kid.f x277000 x277001 x277002 x1 x6).bind fun t288 => ((spec_l05Statement.f t288).bind fun t289 => (if t289 = true then (spec_l05Kids.l0 k x1 x5 (wrap64 (x6 + 1)) x277000 x277001 x277002) else (some false)))) else ((spec_l01In.f x5 1 12).bind fun t287 => (some t287))
end
def spec_l05Kids.f (k : Nat) (l0_0 : List (S77)) (l0_1 : List (S106)) (l0_2 : List (S103)) (a1 : Int) : Option (Bool) := if 0 ≤ a1 then (if a1 < (l0_0.length : Int) then (if ((rd_T77 l0_0 a1).f0) = 1 then (spec_l05Kids.j0 k a1 (((rd_T77 l0_0 a1).f5).length : Int) ((rd_T77 l0_0 a1).f0) (((rd_T77 l0_0 a1).f0) == 1) l0_0 l0_1 l0_2) else (if ((rd_T77 l0_0 a1).f0) = 2 then (spec_l05Kids.j0 k a1 (((rd_T77 l0_0 a1).f5).length : Int) ((rd_T77 l0_0 a1).f0) (((rd_T77 l0_0 a1).f0) == 2) l0_0 l0_1 l0_2) else (if ((rd_T77 l0_0 a1).f0) = 16 then (spec_l05Kids.j0 k a1 (((rd_T77 l0_0 a1).f5).length : Int) ((rd_T77 l0_0 a1).f0) (((rd_T77 l0_0 a1).f0) == 16) l0_0 l0_1 l0_2) else (if ((rd_T77 l0_0 a1).f0) = 17 then (spec_l05Kids.j0 k a1 (((rd_T77 l0_0 a1).f5).length : Int) ((rd_T77 l0_0 a1).f0) (((rd_T77 l0_0 a1).f0) == 17) l0_0 l0_1 l0_2) else (if ((rd_T77 l0_0 a1).f0) = 18 then (spec_l05Kids.j0 k a1 (((rd_T77 l0_0 a1).f5).length : Int) ((rd_T77 l0_0 a1).f0) (((rd_T77 l0_0 a1).f0) == 18) l0_0 l0_1 l0_2) else (spec_l05Kids.j0 k a1 (((rd_T77 l0_0 a1).f5).length : Int) ((rd_T77 l0_0 a1).f0) (((rd_T77 l0_0 a1).f0) == 19) l0_0 l0_1 l0_2)))))) else (none)) else (none)
theorem spec_l05Kids.calls (k : Nat) (A0_0 : Option Addr) (c0_0 : Nat) (l0_0 : List (S77)) (A0_1 : Option Addr) (c0_1 : Nat) (l0_1 : List (S106)) (A0_2 : Option Addr) (c0_2 : Nat) (l0_2 : List (S103)) (a1 : Int) (r : Bool) (w : World) (hr0_0 : Kd.C k77 w A0_0 l0_0.length l0_0) (hc0_0 : l0_0.length ≤ c0_0) (hr0_1 : Kd.C k106 w A0_1 l0_1.length l0_1) (hc0_1 : l0_1.length ≤ c0_1) (hr0_2 : Kd.C k103 w A0_2 l0_2.length l0_2) (hc0_2 : l0_2.length ≤ c0_2) (h : spec_l05Kids.f k l0_0 l0_1 l0_2 a1 = some r) :
  Calls Try.prog 76 #[.agg #[.slice A0_0 l0_0.length c0_0, .slice A0_1 l0_1.length c0_1, .slice A0_2 l0_2.length c0_2], .int .i64 a1] w fun e w' => e = .returned (.bool r) ∧ Below w.heap.size w w' := by
 have hu40 := Try.underlying40
 have HR0_0 := Aside0.mk hr0_0
 have HC0_0 := Aside0.mk hc0_0
 clear hr0_0 hc0_0
 have HR0_1 := Aside0.mk hr0_1
 have HC0_1 := Aside0.mk hc0_1
 clear hr0_1 hc0_1
 have HR0_2 := Aside0.mk hr0_2
 have HC0_2 := Aside0.mk hc0_2
 clear hr0_2 hc0_2
 have HB := Aside0.mk (Below.refl w.heap.size w)
 have H : (if 0 ≤ a1 then (if a1 < (l0_0.length : Int) then (if ((rd_T77 l0_0 a1).f0) = 1 then (spec_l05Kids.j0 k a1 (((rd_T77 l0_0 a1).f5).length : Int) ((rd_T77 l0_0 a1).f0) (((rd_T77 l0_0 a1).f0) == 1) l0_0 l0_1 l0_2) else (if ((rd_T77 l0_0 a1).f0) = 2 then (spec_l05Kids.j0 k a1 (((rd_T77 l0_0 a1).f5).length : Int) ((rd_T77 l0_0 a1).f0) (((rd_T77 l0_0 a1).f0) == 2) l0_0 l0_1 l0_2) else (if ((rd_T77 l0_0 a1).f0) = 16 then (spec_l05Kids.j0 k a1 (((rd_T77 l0_0 a1).f5).length : Int) ((rd_T77 l0_0 a1).f0) (((rd_T77 l0_0 a1).f0) == 16) l0_0 l0_1 l0_2) else (if ((rd_T77 l0_0 a1).f0) = 17 then (spec_l05Kids.j0 k a1 (((rd_T77 l0_0 a1).f5).length : Int) ((rd_T77 l0_0 a1).f0) (((rd_T77 l0_0 a1).f0) == 17) l0_0 l0_1 l0_2) else (if ((rd_T77 l0_0 a1).f0) = 18 then (spec_l05Kids.j0 k a1 (((rd_T77 l0_0 a1).f5).length : Int) ((rd_T77 l0_0 a1).f0) (((rd_T77 l0_0 a1).f0) == 18) l0_0 l0_1 l0_2) else (spec_l05Kids.j0 k a1 (((rd_T77 l0_0 a1).f5).length : Int) ((rd_T77 l0_0 a1).f0) (((rd_T77 l0_0 a1).f0) == 19) l0_0 l0_1 l0_2)))))) else (none)) else (none)) = some r := h
 clear h
 by_cases c3 : 0 ≤ a1
 ·rw [if_pos c3] at H
  have c3b0 := decide_eq_true c3
  clear c3
  by_cases c4 : a1 < (l0_0.length : Int)
  ·rw [if_pos c4] at H
   have c4b0 := decide_eq_true c4
   clear c4
   have HC5 := Aside0.mk H
   clear H
   go_enter Try.func76, Try.ntmps76
   go_upto_if 20 with (first | (refine Bv_ 2 #[.slice A0_0 l0_0.length c0_0, .slice A0_1 l0_1.length c0_1, .slice A0_2 l0_2.length c0_2] 40 ?_; intro gb276 hg w6 BK276 hb; have GW276 := Hg_ HB hg; replace HB := Hs_ HB hb; clear hb hg; obtain ⟨hcz7_0, hcz7_1, hcz7_2, hfz7_0, hfz7_1, hfz7_2⟩ := Bc3_ BK276; have p277 : 0 ≤ (a1 : Int) := of_decide_eq_true As_; have q277 : a1 < (l0_0.length : Int) := of_decide_eq_true As_; obtain ⟨ad277, A277_5, c277_5, e277, hx277_0, hx277_1, hx277_2, hx277_3, hx277_4, hx277_5, hl277_5, hi277_5⟩ := at_T77 HR0_0.out a1 p277 q277; cases e277; replace hx277_0 := Bw_ hx277_0 HB; replace hx277_1 := Bw_ hx277_1 HB; replace hx277_2 := Bw_ hx277_2 HB; replace hx277_3 := Bw_ hx277_3 HB; replace hx277_4 := Bw_ hx277_4 HB; replace hx277_5 := Bw_ hx277_5 HB; have HR277_5 := Aside0.mk hi277_5; have HC277_5 := Aside0.mk hl277_5; clear hi277_5 hl277_5; replace p277 := eq_true p277; replace q277 := eq_true q277; have p278 : 0 ≤ (a1 : Int) := of_decide_eq_true As_; have q278 : a1 < (l0_0.length : Int) := of_decide_eq_true As_; obtain ⟨ad278, A278_5, c278_5, e278, hx278_0, hx278_1, hx278_2, hx278_3, hx278_4, hx278_5, hl278_5, hi278_5⟩ := at_T77 HR0_0.out a1 p278 q278; obtain rfl : ad277 = ad278 := (by injection e278); replace hx278_0 := Bw_ hx278_0 HB; replace hx278_1 := Bw_ hx278_1 HB; replace hx278_2 := Bw_ hx278_2 HB; replace hx278_3 := Bw_ hx278_3 HB; replace hx278_4 := Bw_ hx278_4 HB; replace hx278_5 := Bw_ hx278_5 HB; have HR278_5 := Aside0.mk hi278_5; have HC278_5 := Aside0.mk hl278_5; clear hi278_5 hl278_5; replace p278 := eq_true p278; replace q278 := eq_true q278; have ea_ := Option.some.inj (hx277_5.symm.trans hx278_5); injection ea_ with ea_ en_ ec_; subst ea_; subst ec_; clear en_))
   (try simp only [Act.put, List.setIfInBounds_toArray, List.set_cons_zero, List.set_cons_succ])
   go_cut [20] (fun v20 wc => ∃ (kq : Nat) (x20_4 : Bool), v20 = .bool x20_4 ∧ Aside0 (spec_l05Kids.j0 kq a1 (((rd_T77 l0_0 a1).f5).length : Int) ((rd_T77 l0_0 a1).f0) x20_4 l0_0 l0_1 l0_2 = some r) ∧ Aside0 (kq ≤ k) ∧ Aside0 (wc.heap[gb276]? = some (.cells #[(.slice (some ad277) l0_0.length c0_0), (.slice A0_1 l0_1.length c0_1), (.slice A0_2 l0_2.length c0_2)] 40 (0, 0))) ∧ Aside0 (Below w.heap.size w wc))
   case first =>
    have H := HC5.out
    clear HC5
    by_cases c8 : ((rd_T77 l0_0 a1).f0) = 1
    ·rw [if_pos c8] at H
     have c8b0 := beq_iff_eq.mpr c8
     have c8b1 := bne_eq_false_iff_eq.mpr c8
     clear c8
     (first | rw [c8b0] | (simp only [i64_w, i32_w]; rw [c8b0]) | skip)
     have H' := Aside0.mk H
     clear H
     go_wp2
     go_meet
     case rel => exact ⟨_, ((((rd_T77 l0_0 a1).f0) == 1)), Rr_, H', ⟨by first | omega | exact Nat.le_refl _⟩, ⟨Bq_ BK276⟩, ⟨Hf_ HB⟩⟩
    ·rw [if_neg c8] at H
     have c8b0 := beq_eq_false_iff_ne.mpr c8
     have c8b1 := bne_iff_ne.mpr c8
     (first | rw [c8b0] | (simp only [i64_w, i32_w]; rw [c8b0]) | skip)
     by_cases c9 : ((rd_T77 l0_0 a1).f0) = 2
     ·rw [if_pos c9] at H
      have c9b0 := beq_iff_eq.mpr c9
      have c9b1 := bne_eq_false_iff_eq.mpr c9
      clear c9
      have H' := Aside0.mk H
      clear H
      go_wp2
      go_meet
      case rel => exact ⟨_, ((((rd_T77 l0_0 a1).f0) == 2)), Rr_, H', ⟨by first | omega | exact Nat.le_refl _⟩, ⟨Bq_ BK276⟩, ⟨Hf_ HB⟩⟩
     ·rw [if_neg c9] at H
      have c9b0 := beq_eq_false_iff_ne.mpr c9
      have c9b1 := bne_iff_ne.mpr c9
      by_cases c10 : ((rd_T77 l0_0 a1).f0) = 16
      ·rw [if_pos c10] at H
       have c10b0 := beq_iff_eq.mpr c10
       have c10b1 := bne_eq_false_iff_eq.mpr c10
       clear c10
       have H' := Aside0.mk H
       clear H
       go_wp2
       go_meet
       case rel => exact ⟨_, ((((rd_T77 l0_0 a1).f0) == 16)), Rr_, H', ⟨by first | omega | exact Nat.le_refl _⟩, ⟨Bq_ BK276⟩, ⟨Hf_ HB⟩⟩
      ·rw [if_neg c10] at H
       have c10b0 := beq_eq_false_iff_ne.mpr c10
       have c10b1 := bne_iff_ne.mpr c10
       by_cases c11 : ((rd_T77 l0_0 a1).f0) = 17
       ·rw [if_pos c11] at H
        have c11b0 := beq_iff_eq.mpr c11
        have c11b1 := bne_eq_false_iff_eq.mpr c11
        clear c11
        have H' := Aside0.mk H
        clear H
        go_wp2
        go_meet
        case rel => exact ⟨_, ((((rd_T77 l0_0 a1).f0) == 17)), Rr_, H', ⟨by first | omega | exact Nat.le_refl _⟩, ⟨Bq_ BK276⟩, ⟨Hf_ HB⟩⟩
       ·rw [if_neg c11] at H
        have c11b0 := beq_eq_false_iff_ne.mpr c11
        have c11b1 := bne_iff_ne.mpr c11
        by_cases c12 : ((rd_T77 l0_0 a1).f0) = 18
        ·rw [if_pos c12] at H
         have c12b0 := beq_iff_eq.mpr c12
         have c12b1 := bne_eq_false_iff_eq.mpr c12
         clear c12
         have H' := Aside0.mk H
         clear H
         go_wp2
         go_meet
         case rel => exact ⟨_, ((((rd_T77 l0_0 a1).f0) == 18)), Rr_, H', ⟨by first | omega | exact Nat.le_refl _⟩, ⟨Bq_ BK276⟩, ⟨Hf_ HB⟩⟩
        ·rw [if_neg c12] at H
         have c12b0 := beq_eq_false_iff_ne.mpr c12
         have c12b1 := bne_iff_ne.mpr c12
         have H' := Aside0.mk H
         clear H
         go_wp2
         go_meet
         case rel => exact ⟨_, ((((rd_T77 l0_0 a1).f0) == 19)), Rr_, H', ⟨by first | omega | exact Nat.le_refl _⟩, ⟨Bq_ BK276⟩, ⟨Hf_ HB⟩⟩
   case rest =>
    clear HC5
    clear c3b0 c4b0 hcz7_0 hcz7_1 hcz7_2 hfz7_0 hfz7_1 hfz7_2 hx277_0 hx277_1 hx277_2 hx277_3 hx277_4 hx277_5 hx278_0 hx278_1 hx278_2 hx278_3 hx278_4 hx278_5 p277 p278 q277 q278
    obtain ⟨kq, x20_4, rfl, HA, HJ4, BK276, HB⟩ := hcut
    cases kq with
    | zero => exact absurd HA.out (by simp [spec_l05Kids.j0])
    | succ kj4 =>
     have H := HA.out
     clear HA
     simp only [spec_l05Kids.j0] at H
     by_cases c13 : x20_4 = true
     ·subst c13
      rw [if_pos rfl] at H
      obtain rfl := Option.some.inj H
      go_wp2
      go_ret
      exact ⟨Re_, Hf_ HB⟩
     ·replace c13 := Bool.eq_false_iff.mpr c13
      subst c13
      rw [if_neg Ff_] at H
      by_cases c14 : ((rd_T77 l0_0 a1).f0) = 3
      ·rw [if_pos c14] at H
       have c14b0 := beq_iff_eq.mpr c14
       have c14b1 := bne_eq_false_iff_eq.mpr c14
       clear c14
       by_cases c15 : (((rd_T77 l0_0 a1).f5).length : Int) = 2
       ·rw [if_pos c15] at H
        have c15b0 := beq_iff_eq.mpr c15
        have c15b1 := bne_eq_false_iff_eq.mpr c15
        clear c15
        obtain ⟨t279, A16, H⟩ := Bo_ H
        obtain rfl := Option.some.inj H
        obtain ⟨hcz17_0, hcz17_1, hcz17_2, hfz17_0, hfz17_1, hfz17_2⟩ := Bc3_ BK276
        go_wp2_with (first | (go_at_call 123; (refine (spec_l05Values.calls kj4 _ _ l0_0 _ _ l0_1 _ _ l0_2 a1 2 t279 _ (Sc_ HR0_0 HB) HC0_0.out (Sc_ HR0_1 HB) HC0_1.out (Sc_ HR0_2 HB) HC0_2.out A16.out).mono ?_); rintro e w18 ⟨rfl, hb⟩; replace BK276 := Bb_ BK276 hb; replace HB := Hs_ HB hb; clear hb))
        go_ret
        exact ⟨Re_, Hf_ HB⟩
       ·rw [if_neg c15] at H
        have c15b0 := beq_eq_false_iff_ne.mpr c15
        have c15b1 := bne_iff_ne.mpr c15
        obtain rfl := Option.some.inj H
        go_wp2
        go_ret
        exact ⟨Re_, Hf_ HB⟩
      ·rw [if_neg c14] at H
       have c14b0 := beq_eq_false_iff_ne.mpr c14
       have c14b1 := bne_iff_ne.mpr c14
       have HC19 := Aside0.mk H
       clear H
       go_upto_if 38 with (fail)
       go_cut [38] (fun v38 wc => ∃ (kq : Nat) (x38_18 : Bool), v38 = .bool x38_18 ∧ Aside0 (spec_l05Kids.j1 kq a1 (((rd_T77 l0_0 a1).f5).length : Int) ((rd_T77 l0_0 a1).f0) x38_18 l0_0 l0_1 l0_2 = some r) ∧ Aside0 (kq ≤ kj4) ∧ Aside0 (wc.heap[gb276]? = some (.cells #[(.slice (some ad277) l0_0.length c0_0), (.slice A0_1 l0_1.length c0_1), (.slice A0_2 l0_2.length c0_2)] 40 (0, 0))) ∧ Aside0 (Below w.heap.size w wc))
       case first =>
        have H := HC19.out
        clear HC19
        by_cases c20 : ((rd_T77 l0_0 a1).f0) = 4
        ·rw [if_pos c20] at H
         have c20b0 := beq_iff_eq.mpr c20
         have c20b1 := bne_eq_false_iff_eq.mpr c20
         clear c20
         (first | rw [c20b0] | (simp only [i64_w, i32_w]; rw [c20b0]) | skip)
         have H' := Aside0.mk H
         clear H
         go_wp2
         go_meet
         case rel => exact ⟨_, ((((rd_T77 l0_0 a1).f0) == 4)), Rr_, H', ⟨by have := HJ4.out; first | omega | exact Nat.le_refl _⟩, ⟨Bq_ BK276⟩, ⟨Hf_ HB⟩⟩
        ·rw [if_neg c20] at H
         have c20b0 := beq_eq_false_iff_ne.mpr c20
         have c20b1 := bne_iff_ne.mpr c20
         (first | rw [c20b0] | (simp only [i64_w, i32_w]; rw [c20b0]) | skip)
         by_cases c21 : ((rd_T77 l0_0 a1).f0) = 5
         ·rw [if_pos c21] at H
          have c21b0 := beq_iff_eq.mpr c21
          have c21b1 := bne_eq_false_iff_eq.mpr c21
          clear c21
          have H' := Aside0.mk H
          clear H
          go_wp2
          go_meet
          case rel => exact ⟨_, ((((rd_T77 l0_0 a1).f0) == 5)), Rr_, H', ⟨by have := HJ4.out; first | omega | exact Nat.le_refl _⟩, ⟨Bq_ BK276⟩, ⟨Hf_ HB⟩⟩
         ·rw [if_neg c21] at H
          have c21b0 := beq_eq_false_iff_ne.mpr c21
          have c21b1 := bne_iff_ne.mpr c21
          by_cases c22 : ((rd_T77 l0_0 a1).f0) = 11
          ·rw [if_pos c22] at H
           have c22b0 := beq_iff_eq.mpr c22
           have c22b1 := bne_eq_false_iff_eq.mpr c22
           clear c22
           have H' := Aside0.mk H
           clear H
           go_wp2
           go_meet
           case rel => exact ⟨_, ((((rd_T77 l0_0 a1).f0) == 11)), Rr_, H', ⟨by have := HJ4.out; first | omega | exact Nat.le_refl _⟩, ⟨Bq_ BK276⟩, ⟨Hf_ HB⟩⟩
          ·rw [if_neg c22] at H
           have c22b0 := beq_eq_false_iff_ne.mpr c22
           have c22b1 := bne_iff_ne.mpr c22
           by_cases c23 : ((rd_T77 l0_0 a1).f0) = 14
           ·rw [if_pos c23] at H
            have c23b0 := beq_iff_eq.mpr c23
            have c23b1 := bne_eq_false_iff_eq.mpr c23
            clear c23
            have H' := Aside0.mk H
            clear H
            go_wp2
            go_meet
            case rel => exact ⟨_, ((((rd_T77 l0_0 a1).f0) == 14)), Rr_, H', ⟨by have := HJ4.out; first | omega | exact Nat.le_refl _⟩, ⟨Bq_ BK276⟩, ⟨Hf_ HB⟩⟩
           ·rw [if_neg c23] at H
            have c23b0 := beq_eq_false_iff_ne.mpr c23
            have c23b1 := bne_iff_ne.mpr c23
            have H' := Aside0.mk H
            clear H
            go_wp2
            go_meet
            case rel => exact ⟨_, ((((rd_T77 l0_0 a1).f0) == 15)), Rr_, H', ⟨by have := HJ4.out; first | omega | exact Nat.le_refl _⟩, ⟨Bq_ BK276⟩, ⟨Hf_ HB⟩⟩
       case rest =>
        clear HC19
        clear c14 c14b0 c14b1
        obtain ⟨kq, x38_18, rfl, HA, HJ18, BK276, HB⟩ := hcut
        cases kq with
        | zero => exact absurd HA.out (by simp [spec_l05Kids.j1])
        | succ kj18 =>
         have H := HA.out
         clear HA
         simp only [spec_l05Kids.j1] at H
         by_cases c24 : x38_18 = true
         ·subst c24
          rw [if_pos rfl] at H
          by_cases c25 : (((rd_T77 l0_0 a1).f5).length : Int) = 1
          ·rw [if_pos c25] at H
           have c25b0 := beq_iff_eq.mpr c25
           have c25b1 := bne_eq_false_iff_eq.mpr c25
           clear c25
           obtain ⟨t280, A26, H⟩ := Bo_ H
           obtain rfl := Option.some.inj H
           obtain ⟨hcz27_0, hcz27_1, hcz27_2, hfz27_0, hfz27_1, hfz27_2⟩ := Bc3_ BK276
           go_wp2_with (first | (go_at_call 123; (refine (spec_l05Values.calls kj18 _ _ l0_0 _ _ l0_1 _ _ l0_2 a1 1 t280 _ (Sc_ HR0_0 HB) HC0_0.out (Sc_ HR0_1 HB) HC0_1.out (Sc_ HR0_2 HB) HC0_2.out A26.out).mono ?_); rintro e w28 ⟨rfl, hb⟩; replace BK276 := Bb_ BK276 hb; replace HB := Hs_ HB hb; clear hb))
           go_ret
           exact ⟨Re_, Hf_ HB⟩
          ·rw [if_neg c25] at H
           have c25b0 := beq_eq_false_iff_ne.mpr c25
           have c25b1 := bne_iff_ne.mpr c25
           obtain rfl := Option.some.inj H
           go_wp2
           go_ret
           exact ⟨Re_, Hf_ HB⟩
         ·replace c24 := Bool.eq_false_iff.mpr c24
          subst c24
          rw [if_neg Ff_] at H
          by_cases c29 : ((rd_T77 l0_0 a1).f0) = 12
          ·rw [if_pos c29] at H
           have c29b0 := beq_iff_eq.mpr c29
           have c29b1 := bne_eq_false_iff_eq.mpr c29
           clear c29
           by_cases c30 : (((rd_T77 l0_0 a1).f5).length : Int) = 2
           ·rw [if_pos c30] at H
            have c30b0 := beq_iff_eq.mpr c30
            have c30b1 := bne_eq_false_iff_eq.mpr c30
            clear c30
            obtain ⟨t281, A31, H⟩ := Bo_ H
            by_cases c32 : t281 = true
            ·subst c32
             rw [if_pos rfl] at H
             obtain ⟨t282, A33, H⟩ := Bo_ H
             obtain rfl := Option.some.inj H
             obtain ⟨hcz34_0, hcz34_1, hcz34_2, hfz34_0, hfz34_1, hfz34_2⟩ := Bc3_ BK276
             go_wp2_with (first | (go_at_call 123; (refine (spec_l05Values.calls kj18 _ _ l0_0 _ _ l0_1 _ _ l0_2 a1 1 true _ (Sc_ HR0_0 HB) HC0_0.out (Sc_ HR0_1 HB) HC0_1.out (Sc_ HR0_2 HB) HC0_2.out A31.out).mono ?_); rintro e w35 ⟨rfl, hb⟩; replace BK276 := Bb_ BK276 hb; replace HB := Hs_ HB hb; clear hb; obtain ⟨hcz36_0, hcz36_1, hcz36_2, hfz36_0, hfz36_1, hfz36_2⟩ := Bc3_ BK276) | (go_at_call 124; (refine (spec_l05Blocks.calls kj18 _ _ l0_0 _ _ l0_1 _ _ l0_2 a1 1 t282 _ (Sc_ HR0_0 HB) HC0_0.out (Sc_ HR0_1 HB) HC0_1.out (Sc_ HR0_2 HB) HC0_2.out A33.out).mono ?_); rintro e w37 ⟨rfl, hb⟩; replace BK276 := Bb_ BK276 hb; replace HB := Hs_ HB hb; clear hb))
             go_ret
             exact ⟨Re_, Hf_ HB⟩
            ·replace c32 := Bool.eq_false_iff.mpr c32
             subst c32
             rw [if_neg Ff_] at H
             obtain rfl := Option.some.inj H
             obtain ⟨hcz38_0, hcz38_1, hcz38_2, hfz38_0, hfz38_1, hfz38_2⟩ := Bc3_ BK276
             go_wp2_with (first | (go_at_call 123; (refine (spec_l05Values.calls kj18 _ _ l0_0 _ _ l0_1 _ _ l0_2 a1 1 false _ (Sc_ HR0_0 HB) HC0_0.out (Sc_ HR0_1 HB) HC0_1.out (Sc_ HR0_2 HB) HC0_2.out A31.out).mono ?_); rintro e w39 ⟨rfl, hb⟩; replace BK276 := Bb_ BK276 hb; replace HB := Hs_ HB hb; clear hb))
             go_ret
             exact ⟨Re_, Hf_ HB⟩
           ·rw [if_neg c30] at H
            have c30b0 := beq_eq_false_iff_ne.mpr c30
            have c30b1 := bne_iff_ne.mpr c30
            by_cases c40 : (((rd_T77 l0_0 a1).f5).length : Int) = 3
            ·rw [if_pos c40] at H
             have c40b0 := beq_iff_eq.mpr c40
             have c40b1 := bne_eq_false_iff_eq.mpr c40
             clear c40
             obtain ⟨t283, A41, H⟩ := Bo_ H
             by_cases c42 : t283 = true
             ·subst c42
              rw [if_pos rfl] at H
              obtain ⟨t284, A43, H⟩ := Bo_ H
              obtain rfl := Option.some.inj H
              obtain ⟨hcz44_0, hcz44_1, hcz44_2, hfz44_0, hfz44_1, hfz44_2⟩ := Bc3_ BK276
              go_wp2_with (first | (go_at_call 123; (refine (spec_l05Values.calls kj18 _ _ l0_0 _ _ l0_1 _ _ l0_2 a1 1 true _ (Sc_ HR0_0 HB) HC0_0.out (Sc_ HR0_1 HB) HC0_1.out (Sc_ HR0_2 HB) HC0_2.out A41.out).mono ?_); rintro e w45 ⟨rfl, hb⟩; replace BK276 := Bb_ BK276 hb; replace HB := Hs_ HB hb; clear hb; obtain ⟨hcz46_0, hcz46_1, hcz46_2, hfz46_0, hfz46_1, hfz46_2⟩ := Bc3_ BK276) | (go_at_call 124; (refine (spec_l05Blocks.calls kj18 _ _ l0_0 _ _ l0_1 _ _ l0_2 a1 1 t284 _ (Sc_ HR0_0 HB) HC0_0.out (Sc_ HR0_1 HB) HC0_1.out (Sc_ HR0_2 HB) HC0_2.out A43.out).mono ?_); rintro e w47 ⟨rfl, hb⟩; replace BK276 := Bb_ BK276 hb; replace HB := Hs_ HB hb; clear hb))
              go_ret
              exact ⟨Re_, Hf_ HB⟩
             ·replace c42 := Bool.eq_false_iff.mpr c42
              subst c42
              rw [if_neg Ff_] at H
              obtain rfl := Option.some.inj H
              obtain ⟨hcz48_0, hcz48_1, hcz48_2, hfz48_0, hfz48_1, hfz48_2⟩ := Bc3_ BK276
              go_wp2_with (first | (go_at_call 123; (refine (spec_l05Values.calls kj18 _ _ l0_0 _ _ l0_1 _ _ l0_2 a1 1 false _ (Sc_ HR0_0 HB) HC0_0.out (Sc_ HR0_1 HB) HC0_1.out (Sc_ HR0_2 HB) HC0_2.out A41.out).mono ?_); rintro e w49 ⟨rfl, hb⟩; replace BK276 := Bb_ BK276 hb; replace HB := Hs_ HB hb; clear hb))
              go_ret
              exact ⟨Re_, Hf_ HB⟩
            ·rw [if_neg c40] at H
             have c40b0 := beq_eq_false_iff_ne.mpr c40
             have c40b1 := bne_iff_ne.mpr c40
             obtain rfl := Option.some.inj H
             go_wp2
             go_ret
             exact ⟨Re_, Hf_ HB⟩
          ·rw [if_neg c29] at H
           have c29b0 := beq_eq_false_iff_ne.mpr c29
           have c29b1 := bne_iff_ne.mpr c29
           by_cases c50 : ((rd_T77 l0_0 a1).f0) = 13
           ·rw [if_pos c50] at H
            have c50b0 := beq_iff_eq.mpr c50
            have c50b1 := bne_eq_false_iff_eq.mpr c50
            clear c50
            by_cases c51 : (((rd_T77 l0_0 a1).f5).length : Int) = 2
            ·rw [if_pos c51] at H
             have c51b0 := beq_iff_eq.mpr c51
             have c51b1 := bne_eq_false_iff_eq.mpr c51
             clear c51
             obtain ⟨t285, A52, H⟩ := Bo_ H
             by_cases c53 : t285 = true
             ·subst c53
              rw [if_pos rfl] at H
              obtain ⟨t286, A54, H⟩ := Bo_ H
              obtain rfl := Option.some.inj H
              obtain ⟨hcz55_0, hcz55_1, hcz55_2, hfz55_0, hfz55_1, hfz55_2⟩ := Bc3_ BK276
              go_wp2_with (first | (go_at_call 123; (refine (spec_l05Values.calls kj18 _ _ l0_0 _ _ l0_1 _ _ l0_2 a1 1 true _ (Sc_ HR0_0 HB) HC0_0.out (Sc_ HR0_1 HB) HC0_1.out (Sc_ HR0_2 HB) HC0_2.out A52.out).mono ?_); rintro e w56 ⟨rfl, hb⟩; replace BK276 := Bb_ BK276 hb; replace HB := Hs_ HB hb; clear hb; obtain ⟨hcz57_0, hcz57_1, hcz57_2, hfz57_0, hfz57_1, hfz57_2⟩ := Bc3_ BK276) | (go_at_call 124; (refine (spec_l05Blocks.calls kj18 _ _ l0_0 _ _ l0_1 _ _ l0_2 a1 1 t286 _ (Sc_ HR0_0 HB) HC0_0.out (Sc_ HR0_1 HB) HC0_1.out (Sc_ HR0_2 HB) HC0_2.out A54.out).mono ?_); rintro e w58 ⟨rfl, hb⟩; replace BK276 := Bb_ BK276 hb; replace HB := Hs_ HB hb; clear hb))
              go_ret
              exact ⟨Re_, Hf_ HB⟩
             ·replace c53 := Bool.eq_false_iff.mpr c53
              subst c53
              rw [if_neg Ff_] at H
              obtain rfl := Option.some.inj H
              obtain ⟨hcz59_0, hcz59_1, hcz59_2, hfz59_0, hfz59_1, hfz59_2⟩ := Bc3_ BK276
              go_wp2_with (first | (go_at_call 123; (refine (spec_l05Values.calls kj18 _ _ l0_0 _ _ l0_1 _ _ l0_2 a1 1 false _ (Sc_ HR0_0 HB) HC0_0.out (Sc_ HR0_1 HB) HC0_1.out (Sc_ HR0_2 HB) HC0_2.out A52.out).mono ?_); rintro e w60 ⟨rfl, hb⟩; replace BK276 := Bb_ BK276 hb; replace HB := Hs_ HB hb; clear hb))
              go_ret
              exact ⟨Re_, Hf_ HB⟩
            ·rw [if_neg c51] at H
             have c51b0 := beq_eq_false_iff_ne.mpr c51
             have c51b1 := bne_iff_ne.mpr c51
             obtain rfl := Option.some.inj H
             go_wp2
             go_ret
             exact ⟨Re_, Hf_ HB⟩
           ·rw [if_neg c50] at H
            have c50b0 := beq_eq_false_iff_ne.mpr c50
            have c50b1 := bne_iff_ne.mpr c50
            have H' := Aside0.mk H
            clear H
            go_wp2
            go_loopg [6] kj18 (fun kq v6 w' => ∃ (x6_3 : Int), v6 = .int .i64 x6_3 ∧ Aside0 (spec_l05Kids.l0 kq a1 (((rd_T77 l0_0 a1).f5).length : Int) x6_3 l0_0 l0_1 l0_2 = some r) ∧ Aside0 (kq ≤ kj18) ∧ Aside0 (w'.heap[gb276]? = some (.cells #[(.slice (some ad277) l0_0.length c0_0), (.slice A0_1 l0_1.length c0_1), (.slice A0_2 l0_2.length c0_2)] 40 (0, 0))) ∧ Aside0 (Below w.heap.size w w'))
            case atStart => exact ⟨(0), Rr_, H', ⟨Nat.le_refl _⟩, ⟨Bq_ BK276⟩, ⟨Hf_ HB⟩⟩
            case round =>
             clear H'
             clear c29 c29b0 c29b1 c50 c50b0 c50b1
             obtain ⟨x6_3, rfl, HA, HK3, BK276, HB⟩ := hrel
             cases gk with
             | zero => exact absurd HA.out (by simp [spec_l05Kids.l0])
             | succ k3 =>
              have H := HA.out
              clear HA
              simp only [spec_l05Kids.l0] at H
              by_cases c61 : x6_3 < (((rd_T77 l0_0 a1).f5).length : Int)
              ·rw [if_pos c61] at H
               have c61b0 := decide_eq_true c61
               clear c61
               obtain ⟨t288, A62, H⟩ := Bo_ H
               obtain ⟨t289, A63, H⟩ := Bo_ H
               by_cases c64 : t289 = true
               ·subst c64
                rw [if_pos rfl] at H
                have H' := Aside0.mk H
                clear H
                obtain ⟨hcz65_0, hcz65_1, hcz65_2, hfz65_0, hfz65_1, hfz65_2⟩ := Bc3_ BK276
                go_wp2_with (first | (refine Gl_ (some 91) Try.func125 ((spec_l05Kid.calls _ _ l0_0 _ _ l0_1 _ _ l0_2 a1 x6_3 t288 _ (Sc_ HR0_0 HB) HC0_0.out (Sc_ HR0_1 HB) HC0_1.out (Sc_ HR0_2 HB) HC0_2.out A62.out).mono ?_); rintro e w66 ⟨rfl, hb⟩; refine ⟨_, rfl, ?_⟩; replace BK276 := Bb_ BK276 hb; replace HB := Hs_ HB hb; clear hb) | (refine Gl_ (some 92) Try.func75 ((spec_l05Statement.calls t288 true _ A63.out).mono ?_); rintro e w' ⟨rfl, ⟨nd, rfl⟩⟩; refine ⟨_, rfl, ?_⟩))
                go_roundg k3
                case measure => have := HJ4.out; have := HJ18.out; have := HK3.out; omega
                case rel => exact ⟨(wrap64 (x6_3 + 1)), Rr_, H', ⟨by have := HJ4.out; have := HJ18.out; have := HK3.out; omega⟩, ⟨Bq_ BK276⟩, ⟨Hf_ HB⟩⟩
               ·replace c64 := Bool.eq_false_iff.mpr c64
                subst c64
                rw [if_neg Ff_] at H
                obtain rfl := Option.some.inj H
                obtain ⟨hcz67_0, hcz67_1, hcz67_2, hfz67_0, hfz67_1, hfz67_2⟩ := Bc3_ BK276
                go_wp2_with (first | (refine Gl_ (some 91) Try.func125 ((spec_l05Kid.calls _ _ l0_0 _ _ l0_1 _ _ l0_2 a1 x6_3 t288 _ (Sc_ HR0_0 HB) HC0_0.out (Sc_ HR0_1 HB) HC0_1.out (Sc_ HR0_2 HB) HC0_2.out A62.out).mono ?_); rintro e w68 ⟨rfl, hb⟩; refine ⟨_, rfl, ?_⟩; replace BK276 := Bb_ BK276 hb; replace HB := Hs_ HB hb; clear hb) | (refine Gl_ (some 92) Try.func75 ((spec_l05Statement.calls t288 false _ A63.out).mono ?_); rintro e w' ⟨rfl, ⟨nd, rfl⟩⟩; refine ⟨_, rfl, ?_⟩))
                go_ret
                exact ⟨Re_, Hf_ HB⟩
              ·rw [if_neg c61] at H
               have c61b0 := decide_eq_false c61
               clear c61
               obtain ⟨t287, A69, H⟩ := Bo_ H
               obtain rfl := Option.some.inj H
               go_wp2_with (first | (refine Gl_ (some 95) Try.func73 ((spec_l01In.calls (((rd_T77 l0_0 a1).f5).length : Int) 1 12 t287 _ A69.out).mono ?_); rintro e w' ⟨rfl, ⟨nd, rfl⟩⟩; refine ⟨_, rfl, ?_⟩))
               go_ret
               exact ⟨Re_, Hf_ HB⟩
  ·rw [if_neg c4] at H
   exact absurd H (by simp)
 ·rw [if_neg c3] at H
  exact absurd H (by simp)

/-! ### spec_l04Keys: function 145 -/
def spec_l04Keys.f  : Option (List ByteArray) := some (([(⟨#[109, 111, 110, 105, 116, 111, 114]⟩ : ByteArray), (⟨#[118, 97, 114]⟩ : ByteArray), (⟨#[113, 117, 101, 117, 101]⟩ : ByteArray), (⟨#[101, 110, 116, 114, 121]⟩ : ByteArray), (⟨#[112, 114, 111, 99, 101, 115, 115]⟩ : ByteArray), (⟨#[117, 115, 101, 115]⟩ : ByteArray), (⟨#[98, 101, 103, 105, 110]⟩ : ByteArray), (⟨#[101, 110, 100]⟩ : ByteArray), (⟨#[105, 102]⟩ : ByteArray), (⟨#[116, 104, 101, 110]⟩ : ByteArray), (⟨#[101, 108, 115, 101]⟩ : ByteArray), (⟨#[119, 104, 105, 108, 101]⟩ : ByteArray), (⟨#[100, 111]⟩ : ByteArray), (⟨#[99, 97, 108, 108]⟩ : ByteArray), (⟨#[116, 111]⟩ : ByteArray), (⟨#[112, 114, 105, 110, 116]⟩ : ByteArray), (⟨#[114, 101, 97, 100]⟩ : ByteArray), (⟨#[100, 101, 108, 97, 121]⟩ : ByteArray), (⟨#[99, 111, 110, 116, 105, 110, 117, 101]⟩ : ByteArray), (⟨#[115, 107, 105, 112]⟩ : ByteArray), (⟨#[97, 110, 100]⟩ : ByteArray), (⟨#[111, 114]⟩ : ByteArray), (⟨#[110, 111, 116]⟩ : ByteArray)] : List ByteArray))
theorem spec_l04Keys.calls  (r : List ByteArray) (w : World) (h : spec_l04Keys.f  = some r) :
  Calls Try.prog 145 #[] w fun e w' => ∃ v0_ : Value, e = .returned (v0_) ∧ Kd.R Kd.string 9 w' w.heap.size (fun _ => True) v0_ r ∧ Below w.heap.size w w' := by
 have HB := Aside0.mk (Below.refl w.heap.size w)
 have H : (some (([(⟨#[109, 111, 110, 105, 116, 111, 114]⟩ : ByteArray), (⟨#[118, 97, 114]⟩ : ByteArray), (⟨#[113, 117, 101, 117, 101]⟩ : ByteArray), (⟨#[101, 110, 116, 114, 121]⟩ : ByteArray), (⟨#[112, 114, 111, 99, 101, 115, 115]⟩ : ByteArray), (⟨#[117, 115, 101, 115]⟩ : ByteArray), (⟨#[98, 101, 103, 105, 110]⟩ : ByteArray), (⟨#[101, 110, 100]⟩ : ByteArray), (⟨#[105, 102]⟩ : ByteArray), (⟨#[116, 104, 101, 110]⟩ : ByteArray), (⟨#[101, 108, 115, 101]⟩ : ByteArray), (⟨#[119, 104, 105, 108, 101]⟩ : ByteArray), (⟨#[100, 111]⟩ : ByteArray), (⟨#[99, 97, 108, 108]⟩ : ByteArray), (⟨#[116, 111]⟩ : ByteArray), (⟨#[112, 114, 105, 110, 116]⟩ : ByteArray), (⟨#[114, 101, 97, 100]⟩ : ByteArray), (⟨#[100, 101, 108, 97, 121]⟩ : ByteArray), (⟨#[99, 111, 110, 116, 105, 110, 117, 101]⟩ : ByteArray), (⟨#[115, 107, 105, 112]⟩ : ByteArray), (⟨#[97, 110, 100]⟩ : ByteArray), (⟨#[111, 114]⟩ : ByteArray), (⟨#[110, 111, 116]⟩ : ByteArray)] : List ByteArray))) = some r := h
 clear h
 obtain ⟨y290, hy290⟩ : ∃ y_ : List ByteArray, y_ = (([(⟨#[109, 111, 110, 105, 116, 111, 114]⟩ : ByteArray), (⟨#[118, 97, 114]⟩ : ByteArray), (⟨#[113, 117, 101, 117, 101]⟩ : ByteArray), (⟨#[101, 110, 116, 114, 121]⟩ : ByteArray), (⟨#[112, 114, 111, 99, 101, 115, 115]⟩ : ByteArray), (⟨#[117, 115, 101, 115]⟩ : ByteArray), (⟨#[98, 101, 103, 105, 110]⟩ : ByteArray), (⟨#[101, 110, 100]⟩ : ByteArray), (⟨#[105, 102]⟩ : ByteArray), (⟨#[116, 104, 101, 110]⟩ : ByteArray), (⟨#[101, 108, 115, 101]⟩ : ByteArray), (⟨#[119, 104, 105, 108, 101]⟩ : ByteArray), (⟨#[100, 111]⟩ : ByteArray), (⟨#[99, 97, 108, 108]⟩ : ByteArray), (⟨#[116, 111]⟩ : ByteArray), (⟨#[112, 114, 105, 110, 116]⟩ : ByteArray), (⟨#[114, 101, 97, 100]⟩ : ByteArray), (⟨#[100, 101, 108, 97, 121]⟩ : ByteArray), (⟨#[99, 111, 110, 116, 105, 110, 117, 101]⟩ : ByteArray), (⟨#[115, 107, 105, 112]⟩ : ByteArray), (⟨#[97, 110, 100]⟩ : ByteArray), (⟨#[111, 114]⟩ : ByteArray), (⟨#[110, 111, 116]⟩ : ByteArray)] : List ByteArray)) := ⟨_, rfl⟩
 replace H : (some y290) = some r := by first | (rw [hy290]; with_reducible exact H) | (have H2_ := (Option.bind_some _ _).symm.trans H; rw [hy290]; with_reducible exact H2_) | (have H2_ := (Option.bind_some _ _).symm.trans H; with_reducible exact H2_) | with_reducible exact H | (rw [hy290]; exact H) | exact H
 have Ny290 := Aside0.mk hy290
 clear hy290
 obtain rfl := Option.some.inj H
 go_enter Try.func145, Try.ntmps145
 go_wp2_with (first | ((with_reducible refine gate_dst (N := 1) rfl ?_); refine Kd.R_lit Kd.string _ 9 ?hg (N := 1) ?hd (xs := ([(⟨#[109, 111, 110, 105, 116, 111, 114]⟩ : ByteArray), (⟨#[118, 97, 114]⟩ : ByteArray), (⟨#[113, 117, 101, 117, 101]⟩ : ByteArray), (⟨#[101, 110, 116, 114, 121]⟩ : ByteArray), (⟨#[112, 114, 111, 99, 101, 115, 115]⟩ : ByteArray), (⟨#[117, 115, 101, 115]⟩ : ByteArray), (⟨#[98, 101, 103, 105, 110]⟩ : ByteArray), (⟨#[101, 110, 100]⟩ : ByteArray), (⟨#[105, 102]⟩ : ByteArray), (⟨#[116, 104, 101, 110]⟩ : ByteArray), (⟨#[101, 108, 115, 101]⟩ : ByteArray), (⟨#[119, 104, 105, 108, 101]⟩ : ByteArray), (⟨#[100, 111]⟩ : ByteArray), (⟨#[99, 97, 108, 108]⟩ : ByteArray), (⟨#[116, 111]⟩ : ByteArray), (⟨#[112, 114, 105, 110, 116]⟩ : ByteArray), (⟨#[114, 101, 97, 100]⟩ : ByteArray), (⟨#[100, 101, 108, 97, 121]⟩ : ByteArray), (⟨#[99, 111, 110, 116, 105, 110, 117, 101]⟩ : ByteArray), (⟨#[115, 107, 105, 112]⟩ : ByteArray), (⟨#[97, 110, 100]⟩ : ByteArray), (⟨#[111, 114]⟩ : ByteArray), (⟨#[110, 111, 116]⟩ : ByteArray)] : List ByteArray)) (inner := [.string (⟨#[109, 111, 110, 105, 116, 111, 114]⟩ : ByteArray), .string (⟨#[118, 97, 114]⟩ : ByteArray), .string (⟨#[113, 117, 101, 117, 101]⟩ : ByteArray), .string (⟨#[101, 110, 116, 114, 121]⟩ : ByteArray), .string (⟨#[112, 114, 111, 99, 101, 115, 115]⟩ : ByteArray), .string (⟨#[117, 115, 101, 115]⟩ : ByteArray), .string (⟨#[98, 101, 103, 105, 110]⟩ : ByteArray), .string (⟨#[101, 110, 100]⟩ : ByteArray), .string (⟨#[105, 102]⟩ : ByteArray), .string (⟨#[116, 104, 101, 110]⟩ : ByteArray), .string (⟨#[101, 108, 115, 101]⟩ : ByteArray), .string (⟨#[119, 104, 105, 108, 101]⟩ : ByteArray), .string (⟨#[100, 111]⟩ : ByteArray), .string (⟨#[99, 97, 108, 108]⟩ : ByteArray), .string (⟨#[116, 111]⟩ : ByteArray), .string (⟨#[112, 114, 105, 110, 116]⟩ : ByteArray), .string (⟨#[114, 101, 97, 100]⟩ : ByteArray), .string (⟨#[100, 101, 108, 97, 121]⟩ : ByteArray), .string (⟨#[99, 111, 110, 116, 105, 110, 117, 101]⟩ : ByteArray), .string (⟨#[115, 107, 105, 112]⟩ : ByteArray), .string (⟨#[97, 110, 100]⟩ : ByteArray), .string (⟨#[111, 114]⟩ : ByteArray), .string (⟨#[110, 111, 116]⟩ : ByteArray)]) (ok := fun _ => True) (okp := fun _ => True) ?hr ?hp (fun _ hk => hk) trivial (Below.refl _ _) (Nat.le_refl _) (by simp) ?_; (case hd => rfl); (case hg => rfl); (case hr => first | (go_simp; done) | (go_simp; rfl)); (case hp => exact (Reps.one (show Kd.M Kd.string _ _ _ (⟨#[109, 111, 110, 105, 116, 111, 114]⟩ : ByteArray) [.string (⟨#[109, 111, 110, 105, 116, 111, 114]⟩ : ByteArray)] from rfl) (Reps.one (show Kd.M Kd.string _ _ _ (⟨#[118, 97, 114]⟩ : ByteArray) [.string (⟨#[118, 97, 114]⟩ : ByteArray)] from rfl) (Reps.one (show Kd.M Kd.string _ _ _ (⟨#[113, 117, 101, 117, 101]⟩ : ByteArray) [.string (⟨#[113, 117, 101, 117, 101]⟩ : ByteArray)] from rfl) (Reps.one (show Kd.M Kd.string _ _ _ (⟨#[101, 110, 116, 114, 121]⟩ : ByteArray) [.string (⟨#[101, 110, 116, 114, 121]⟩ : ByteArray)] from rfl) (Reps.one (show Kd.M Kd.string _ _ _ (⟨#[112, 114, 111, 99, 101, 115, 115]⟩ : ByteArray) [.string (⟨#[112, 114, 111, 99, 101, 115, 115]⟩ : ByteArray)] from rfl) (Reps.one (show Kd.M Kd.string _ _ _ (⟨#[117, 115, 101, 115]⟩ : ByteArray) [.string (⟨#[117, 115, 101, 115]⟩ : ByteArray)] from rfl) (Reps.one (show Kd.M Kd.string _ _ _ (⟨#[98, 101, 103, 105, 110]⟩ : ByteArray) [.string (⟨#[98, 101, 103, 105, 110]⟩ : ByteArray)] from rfl) (Reps.one (show Kd.M Kd.string _ _ _ (⟨#[101, 110, 100]⟩ : ByteArray) [.string (⟨#[101, 110, 100]⟩ : ByteArray)] from rfl) (Reps.one (show Kd.M Kd.string _ _ _ (⟨#[105, 102]⟩ : ByteArray) [.string (⟨#[105, 102]⟩ : ByteArray)] from rfl) (Reps.one (show Kd.M Kd.string _ _ _ (⟨#[116, 104, 101, 110]⟩ : ByteArray) [.string (⟨#[116, 104, 101, 110]⟩ : ByteArray)] from rfl) (Reps.one (show Kd.M Kd.string _ _ _ (⟨#[101, 108, 115, 101]⟩ : ByteArray) [.string (⟨#[101, 108, 115, 101]⟩ : ByteArray)] from rfl) (Reps.one (show Kd.M Kd.string _ _ _ (⟨#[119, 104, 105, 108, 101]⟩ : ByteArray) [.string (⟨#[119, 104, 105, 108, 101]⟩ : ByteArray)] from rfl) (Reps.one (show Kd.M Kd.string _ _ _ (⟨#[100, 111]⟩ : ByteArray) [.string (⟨#[100, 111]⟩ : ByteArray)] from rfl) (Reps.one (show Kd.M Kd.string _ _ _ (⟨#[99, 97, 108, 108]⟩ : ByteArray) [.string (⟨#[99, 97, 108, 108]⟩ : ByteArray)] from rfl) (Reps.one (show Kd.M Kd.string _ _ _ (⟨#[116, 111]⟩ : ByteArray) [.string (⟨#[116, 111]⟩ : ByteArray)] from rfl) (Reps.one (show Kd.M Kd.string _ _ _ (⟨#[112, 114, 105, 110, 116]⟩ : ByteArray) [.string (⟨#[112, 114, 105, 110, 116]⟩ : ByteArray)] from rfl) (Reps.one (show Kd.M Kd.string _ _ _ (⟨#[114, 101, 97, 100]⟩ : ByteArray) [.string (⟨#[114, 101, 97, 100]⟩ : ByteArray)] from rfl) (Reps.one (show Kd.M Kd.string _ _ _ (⟨#[100, 101, 108, 97, 121]⟩ : ByteArray) [.string (⟨#[100, 101, 108, 97, 121]⟩ : ByteArray)] from rfl) (Reps.one (show Kd.M Kd.string _ _ _ (⟨#[99, 111, 110, 116, 105, 110, 117, 101]⟩ : ByteArray) [.string (⟨#[99, 111, 110, 116, 105, 110, 117, 101]⟩ : ByteArray)] from rfl) (Reps.one (show Kd.M Kd.string _ _ _ (⟨#[115, 107, 105, 112]⟩ : ByteArray) [.string (⟨#[115, 107, 105, 112]⟩ : ByteArray)] from rfl) (Reps.one (show Kd.M Kd.string _ _ _ (⟨#[97, 110, 100]⟩ : ByteArray) [.string (⟨#[97, 110, 100]⟩ : ByteArray)] from rfl) (Reps.one (show Kd.M Kd.string _ _ _ (⟨#[111, 114]⟩ : ByteArray) [.string (⟨#[111, 114]⟩ : ByteArray)] from rfl) (Reps.one (show Kd.M Kd.string _ _ _ (⟨#[110, 111, 116]⟩ : ByteArray) [.string (⟨#[110, 111, 116]⟩ : ByteArray)] from rfl) (Reps.none _ _))))))))))))))))))))))))); intro v291 w1 ho2 hb hg_ hnew_; clear hg_ hnew_; (first | rw [← Ny290.out] at ho2 | (simp only [Int.reduceToNat] at ho2; rw [← Ny290.out] at ho2)); have HO292 := Aside0.mk (Kd.R_lower ho2 (below_size (Hf_ HB))); replace HB := Hs_ HB hb; clear hb ho2))
 go_ret
 exact ⟨_, Re_, by (with_reducible repeat (first | apply Kd.R_alloc | apply Kd.R_drewN | apply Kd.R_drew)); exact HO292.out, Hf_ HB⟩

end Go.Proofs.Ytmbkcbgbienjoaa.PFnExactValueOf
