/- The machine side of the law FnExactDeepOf: for each function that it reaches, a Lean function and its contract. Written by a program of this session's over the kit's print. No condition. -/
import Derived.Test.YtmbkcbgbienjoaaCmq
import Derived.Test.YtmbkcbgbienjoaaPFnExactDeepOfx0
import Derived.Test.YtmbkcbgbienjoaaPFnExactDeepOfx12
namespace Go.Proofs.Ytmbkcbgbienjoaa.PFnExactDeepOf
open Go.RowKit Go.Proofs.YtmbkcbgbienjoaaW.PrintWords Go.Proofs.YtmbkcbgbienjoaaW.PrintLast Go.Proofs.YtmbkcbgbienjoaaW.PrintMore Go.Proofs.Ytmbkcbgbienjoaa.Cmp
attribute [local go_sem] max2_int min2_int max_two min_two max_three min_three max_four min_four   -- for this text's walks alone
set_option linter.unusedVariables false
set_option maxHeartbeats 8000000
set_option maxRecDepth 100000
set_option linter.unusedSimpArgs false

/-! ### slices_Contains_int_int: function 80 -/
def slices_Contains_int_int.f (k : Nat) (l0 : List Int) (a1 : Int) : Option (Bool) := (slices_Index_int_int.f k l0 a1).bind fun t359 => (some (decide (t359 ≥ 0)))
theorem slices_Contains_int_int.calls (k : Nat) (A0 : Option Addr) (c0 : Nat) (l0 : List Int) (a1 : Int) (r : Bool) (w : World) (hr0 : Kd.C (Kd.int .i64) w A0 l0.length l0) (hc0 : l0.length ≤ c0) (h : slices_Contains_int_int.f k l0 a1 = some r) :
  Calls Try.prog 80 #[.slice A0 l0.length c0, .int .i64 a1] w fun e w' => e = .returned (.bool r) ∧ Drawn0 w w' := by
 have HR0 := Aside0.mk hr0
 have HC0 := Aside0.mk hc0
 clear hr0 hc0
 have H : ((slices_Index_int_int.f k l0 a1).bind fun t359 => (some (decide (t359 ≥ 0)))) = some r := h
 clear h
 obtain ⟨t359, A3, H⟩ := Bo_ H
 obtain rfl := Option.some.inj H
 go_enter Try.func80, Try.ntmps80
 go_wp2_with (first | ((with_reducible refine gate_callee (f := 127) rfl ?_); refine goesL_ (some 7) rfl rfl Try.func127 (by kernel_rfl) rfl #[.slice A0 l0.length c0, .int .i64 a1] rfl Mp_ ?_; (with_reducible refine (slices_Index_int_int.calls k _ _ l0 a1 t359 _ ?side1 ?side2 A3.out).mono ?_); (case side1 => repeat (first | exact HR0.out | (with_reducible refine Kd.C_alloc ?_ _) | (with_reducible refine Kd.C_drewN ?_ _) | (with_reducible refine Kd.C_drew ?_))); (case side2 => exact HC0.out); rintro e w' ⟨rfl, ⟨nd, rfl⟩⟩; refine ⟨_, rfl, ?_⟩))
 go_ret
 exact ⟨by first | rfl | (simp; done) | (simp [*]; done), by repeat (first | exact Drawn0.refl _ | apply Drawn0.step)⟩

/-! ### impl_isBlock: function 96 -/
def impl_isBlock.f (l0_0 : List (S77)) (l0_1 : List (S106)) (l0_2 : List (S103)) (a1 : Int) : Option (Bool) := (impl_isNode.f l0_0 l0_1 l0_2 a1).bind fun t361 => (if t361 = true then (if 0 ≤ a1 then (if a1 < (l0_0.length : Int) then (some (((rd_T77 l0_0 a1).f0) == 20)) else (none)) else (none)) else (some false))
theorem impl_isBlock.calls (A0_0 : Option Addr) (c0_0 : Nat) (l0_0 : List (S77)) (A0_1 : Option Addr) (c0_1 : Nat) (l0_1 : List (S106)) (A0_2 : Option Addr) (c0_2 : Nat) (l0_2 : List (S103)) (a1 : Int) (r : Bool) (w : World) (hr0_0 : Kd.C k77 w A0_0 l0_0.length l0_0) (hc0_0 : l0_0.length ≤ c0_0) (hr0_1 : Kd.C k106 w A0_1 l0_1.length l0_1) (hc0_1 : l0_1.length ≤ c0_1) (hr0_2 : Kd.C k103 w A0_2 l0_2.length l0_2) (hc0_2 : l0_2.length ≤ c0_2) (h : impl_isBlock.f l0_0 l0_1 l0_2 a1 = some r) :
  Calls Try.prog 96 #[.agg #[.slice A0_0 l0_0.length c0_0, .slice A0_1 l0_1.length c0_1, .slice A0_2 l0_2.length c0_2], .int .i64 a1] w fun e w' => e = .returned (.bool r) ∧ Below w.heap.size w w' := by
 have hu40 := Try.underlying40
 have HR0_0 := Aside0.mk hr0_0
 have HC0_0 := Aside0.mk hc0_0
 clear hr0_0 hc0_0
 have HR0_1 := Aside0.mk hr0_1
 have HC0_1 := Aside0.mk hc0_1
 clear hr0_1 hc0_1
 have HR0_2 := Aside0.mk hr0_2
 have HC0_2 := Aside0.mk hc0_2
 clear hr0_2 hc0_2
 have HB := Aside0.mk (Below.refl w.heap.size w)
 have H : ((impl_isNode.f l0_0 l0_1 l0_2 a1).bind fun t361 => (if t361 = true then (if 0 ≤ a1 then (if a1 < (l0_0.length : Int) then (some (((rd_T77 l0_0 a1).f0) == 20)) else (none)) else (none)) else (some false))) = some r := h
 clear h
 obtain ⟨t361, A3, H⟩ := Bo_ H
 by_cases c4 : t361 = true
 ·subst c4
  rw [if_pos rfl] at H
  by_cases c5 : 0 ≤ a1
  ·rw [if_pos c5] at H
   have c5b0 := decide_eq_true c5
   clear c5
   by_cases c6 : a1 < (l0_0.length : Int)
   ·rw [if_pos c6] at H
    have c6b0 := decide_eq_true c6
    clear c6
    obtain rfl := Option.some.inj H
    go_enter Try.func96, Try.ntmps96
    go_wp2_with (first | (refine Bv_ 2 #[.slice A0_0 l0_0.length c0_0, .slice A0_1 l0_1.length c0_1, .slice A0_2 l0_2.length c0_2] 40 ?_; intro gb360 hg w7 BK360 hb; have GW360 := Hg_ HB hg; replace HB := Hs_ HB hb; clear hb hg; obtain ⟨hcz8_0, hcz8_1, hcz8_2, hfz8_0, hfz8_1, hfz8_2⟩ := Bc3_ BK360) | (refine Gl_ (some 7) Try.func78 ((impl_isNode.calls _ _ l0_0 _ _ l0_1 _ _ l0_2 a1 true _ (Sc_ HR0_0 HB) HC0_0.out (Sc_ HR0_1 HB) HC0_1.out (Sc_ HR0_2 HB) HC0_2.out A3.out).mono ?_); rintro e w9 ⟨rfl, hb⟩; refine ⟨_, rfl, ?_⟩; replace BK360 := Bb_ BK360 hb; replace HB := Hs_ HB hb; clear hb; obtain ⟨hcz10_0, hcz10_1, hcz10_2, hfz10_0, hfz10_1, hfz10_2⟩ := Bc3_ BK360; have p362 : 0 ≤ (a1 : Int) := of_decide_eq_true As_; have q362 : a1 < (l0_0.length : Int) := of_decide_eq_true As_; obtain ⟨ad362, A362_5, c362_5, e362, hx362_0, hx362_1, hx362_2, hx362_3, hx362_4, hx362_5, hl362_5, hi362_5⟩ := at_T77 HR0_0.out a1 p362 q362; cases e362; replace hx362_0 := Bw_ hx362_0 HB; replace hx362_1 := Bw_ hx362_1 HB; replace hx362_2 := Bw_ hx362_2 HB; replace hx362_3 := Bw_ hx362_3 HB; replace hx362_4 := Bw_ hx362_4 HB; replace hx362_5 := Bw_ hx362_5 HB; have HR362_5 := Aside0.mk hi362_5; have HC362_5 := Aside0.mk hl362_5; clear hi362_5 hl362_5; replace p362 := eq_true p362; replace q362 := eq_true q362))
    go_ret
    exact ⟨Re_, Hf_ HB⟩
   ·rw [if_neg c6] at H
    exact absurd H (by simp)
  ·rw [if_neg c5] at H
   exact absurd H (by simp)
 ·replace c4 := Bool.eq_false_iff.mpr c4
  subst c4
  rw [if_neg Ff_] at H
  obtain rfl := Option.some.inj H
  go_enter Try.func96, Try.ntmps96
  go_wp2_with (first | (refine Bv_ 2 #[.slice A0_0 l0_0.length c0_0, .slice A0_1 l0_1.length c0_1, .slice A0_2 l0_2.length c0_2] 40 ?_; intro gb360 hg w11 BK360 hb; have GW360 := Hg_ HB hg; replace HB := Hs_ HB hb; clear hb hg; obtain ⟨hcz12_0, hcz12_1, hcz12_2, hfz12_0, hfz12_1, hfz12_2⟩ := Bc3_ BK360) | (refine Gl_ (some 7) Try.func78 ((impl_isNode.calls _ _ l0_0 _ _ l0_1 _ _ l0_2 a1 false _ (Sc_ HR0_0 HB) HC0_0.out (Sc_ HR0_1 HB) HC0_1.out (Sc_ HR0_2 HB) HC0_2.out A3.out).mono ?_); rintro e w13 ⟨rfl, hb⟩; refine ⟨_, rfl, ?_⟩; replace BK360 := Bb_ BK360 hb; replace HB := Hs_ HB hb; clear hb))
  go_ret
  exact ⟨Re_, Hf_ HB⟩

/-! ### impl_isValue: function 102 -/
def impl_isValue.f (l0_0 : List (S77)) (l0_1 : List (S106)) (l0_2 : List (S103)) (a1 : Int) : Option (Bool) := (impl_isNode.f l0_0 l0_1 l0_2 a1).bind fun t364 => (if t364 = true then (if 0 ≤ a1 then (if a1 < (l0_0.length : Int) then ((impl_within.f ((rd_T77 l0_0 a1).f0) 1 5).bind fun t366 => (some t366)) else (none)) else (none)) else (some false))
theorem impl_isValue.calls (A0_0 : Option Addr) (c0_0 : Nat) (l0_0 : List (S77)) (A0_1 : Option Addr) (c0_1 : Nat) (l0_1 : List (S106)) (A0_2 : Option Addr) (c0_2 : Nat) (l0_2 : List (S103)) (a1 : Int) (r : Bool) (w : World) (hr0_0 : Kd.C k77 w A0_0 l0_0.length l0_0) (hc0_0 : l0_0.length ≤ c0_0) (hr0_1 : Kd.C k106 w A0_1 l0_1.length l0_1) (hc0_1 : l0_1.length ≤ c0_1) (hr0_2 : Kd.C k103 w A0_2 l0_2.length l0_2) (hc0_2 : l0_2.length ≤ c0_2) (h : impl_isValue.f l0_0 l0_1 l0_2 a1 = some r) :
  Calls Try.prog 102 #[.agg #[.slice A0_0 l0_0.length c0_0, .slice A0_1 l0_1.length c0_1, .slice A0_2 l0_2.length c0_2], .int .i64 a1] w fun e w' => e = .returned (.bool r) ∧ Below w.heap.size w w' := by
 have hu40 := Try.underlying40
 have HR0_0 := Aside0.mk hr0_0
 have HC0_0 := Aside0.mk hc0_0
 clear hr0_0 hc0_0
 have HR0_1 := Aside0.mk hr0_1
 have HC0_1 := Aside0.mk hc0_1
 clear hr0_1 hc0_1
 have HR0_2 := Aside0.mk hr0_2
 have HC0_2 := Aside0.mk hc0_2
 clear hr0_2 hc0_2
 have HB := Aside0.mk (Below.refl w.heap.size w)
 have H : ((impl_isNode.f l0_0 l0_1 l0_2 a1).bind fun t364 => (if t364 = true then (if 0 ≤ a1 then (if a1 < (l0_0.length : Int) then ((impl_within.f ((rd_T77 l0_0 a1).f0) 1 5).bind fun t366 => (some t366)) else (none)) else (none)) else (some false))) = some r := h
 clear h
 obtain ⟨t364, A3, H⟩ := Bo_ H
 by_cases c4 : t364 = true
 ·subst c4
  rw [if_pos rfl] at H
  by_cases c5 : 0 ≤ a1
  ·rw [if_pos c5] at H
   have c5b0 := decide_eq_true c5
   clear c5
   by_cases c6 : a1 < (l0_0.length : Int)
   ·rw [if_pos c6] at H
    have c6b0 := decide_eq_true c6
    clear c6
    obtain ⟨t366, A7, H⟩ := Bo_ H
    obtain rfl := Option.some.inj H
    go_enter Try.func102, Try.ntmps102
    go_wp2_with (first | (refine Bv_ 2 #[.slice A0_0 l0_0.length c0_0, .slice A0_1 l0_1.length c0_1, .slice A0_2 l0_2.length c0_2] 40 ?_; intro gb363 hg w8 BK363 hb; have GW363 := Hg_ HB hg; replace HB := Hs_ HB hb; clear hb hg; obtain ⟨hcz9_0, hcz9_1, hcz9_2, hfz9_0, hfz9_1, hfz9_2⟩ := Bc3_ BK363) | (refine Gl_ (some 7) Try.func78 ((impl_isNode.calls _ _ l0_0 _ _ l0_1 _ _ l0_2 a1 true _ (Sc_ HR0_0 HB) HC0_0.out (Sc_ HR0_1 HB) HC0_1.out (Sc_ HR0_2 HB) HC0_2.out A3.out).mono ?_); rintro e w10 ⟨rfl, hb⟩; refine ⟨_, rfl, ?_⟩; replace BK363 := Bb_ BK363 hb; replace HB := Hs_ HB hb; clear hb; obtain ⟨hcz11_0, hcz11_1, hcz11_2, hfz11_0, hfz11_1, hfz11_2⟩ := Bc3_ BK363; have p365 : 0 ≤ (a1 : Int) := of_decide_eq_true As_; have q365 : a1 < (l0_0.length : Int) := of_decide_eq_true As_; obtain ⟨ad365, A365_5, c365_5, e365, hx365_0, hx365_1, hx365_2, hx365_3, hx365_4, hx365_5, hl365_5, hi365_5⟩ := at_T77 HR0_0.out a1 p365 q365; cases e365; replace hx365_0 := Bw_ hx365_0 HB; replace hx365_1 := Bw_ hx365_1 HB; replace hx365_2 := Bw_ hx365_2 HB; replace hx365_3 := Bw_ hx365_3 HB; replace hx365_4 := Bw_ hx365_4 HB; replace hx365_5 := Bw_ hx365_5 HB; have HR365_5 := Aside0.mk hi365_5; have HC365_5 := Aside0.mk hl365_5; clear hi365_5 hl365_5; replace p365 := eq_true p365; replace q365 := eq_true q365) | (go_at_call 79; (with_reducible refine (impl_within.calls ((rd_T77 l0_0 a1).f0) 1 5 t366 _ A7.out).mono ?_); rintro e w' ⟨rfl, ⟨nd, rfl⟩⟩))
    go_ret
    exact ⟨Re_, Hf_ HB⟩
   ·rw [if_neg c6] at H
    exact absurd H (by simp)
  ·rw [if_neg c5] at H
   exact absurd H (by simp)
 ·replace c4 := Bool.eq_false_iff.mpr c4
  subst c4
  rw [if_neg Ff_] at H
  obtain rfl := Option.some.inj H
  go_enter Try.func102, Try.ntmps102
  go_wp2_with (first | (refine Bv_ 2 #[.slice A0_0 l0_0.length c0_0, .slice A0_1 l0_1.length c0_1, .slice A0_2 l0_2.length c0_2] 40 ?_; intro gb363 hg w12 BK363 hb; have GW363 := Hg_ HB hg; replace HB := Hs_ HB hb; clear hb hg; obtain ⟨hcz13_0, hcz13_1, hcz13_2, hfz13_0, hfz13_1, hfz13_2⟩ := Bc3_ BK363) | (refine Gl_ (some 7) Try.func78 ((impl_isNode.calls _ _ l0_0 _ _ l0_1 _ _ l0_2 a1 false _ (Sc_ HR0_0 HB) HC0_0.out (Sc_ HR0_1 HB) HC0_1.out (Sc_ HR0_2 HB) HC0_2.out A3.out).mono ?_); rintro e w14 ⟨rfl, hb⟩; refine ⟨_, rfl, ?_⟩; replace BK363 := Bb_ BK363 hb; replace HB := Hs_ HB hb; clear hb))
  go_ret
  exact ⟨Re_, Hf_ HB⟩

/-! ### impl_isStatement: function 128 -/
def impl_isStatement.f (l0_0 : List (S77)) (l0_1 : List (S106)) (l0_2 : List (S103)) (a1 : Int) : Option (Bool) := (impl_isNode.f l0_0 l0_1 l0_2 a1).bind fun t368 => (if t368 = true then (if 0 ≤ a1 then (if a1 < (l0_0.length : Int) then ((impl_within.f ((rd_T77 l0_0 a1).f0) 11 19).bind fun t370 => (some t370)) else (none)) else (none)) else (some false))
theorem impl_isStatement.calls (A0_0 : Option Addr) (c0_0 : Nat) (l0_0 : List (S77)) (A0_1 : Option Addr) (c0_1 : Nat) (l0_1 : List (S106)) (A0_2 : Option Addr) (c0_2 : Nat) (l0_2 : List (S103)) (a1 : Int) (r : Bool) (w : World) (hr0_0 : Kd.C k77 w A0_0 l0_0.length l0_0) (hc0_0 : l0_0.length ≤ c0_0) (hr0_1 : Kd.C k106 w A0_1 l0_1.length l0_1) (hc0_1 : l0_1.length ≤ c0_1) (hr0_2 : Kd.C k103 w A0_2 l0_2.length l0_2) (hc0_2 : l0_2.length ≤ c0_2) (h : impl_isStatement.f l0_0 l0_1 l0_2 a1 = some r) :
  Calls Try.prog 128 #[.agg #[.slice A0_0 l0_0.length c0_0, .slice A0_1 l0_1.length c0_1, .slice A0_2 l0_2.length c0_2], .int .i64 a1] w fun e w' => e = .returned (.bool r) ∧ Below w.heap.size w w' := by
 have hu40 := Try.underlying40
 have HR0_0 := Aside0.mk hr0_0
 have HC0_0 := Aside0.mk hc0_0
 clear hr0_0 hc0_0
 have HR0_1 := Aside0.mk hr0_1
 have HC0_1 := Aside0.mk hc0_1
 clear hr0_1 hc0_1
 have HR0_2 := Aside0.mk hr0_2
 have HC0_2 := Aside0.mk hc0_2
 clear hr0_2 hc0_2
 have HB := Aside0.mk (Below.refl w.heap.size w)
 have H : ((impl_isNode.f l0_0 l0_1 l0_2 a1).bind fun t368 => (if t368 = true then (if 0 ≤ a1 then (if a1 < (l0_0.length : Int) then ((impl_within.f ((rd_T77 l0_0 a1).f0) 11 19).bind fun t370 => (some t370)) else (none)) else (none)) else (some false))) = some r := h
 clear h
 obtain ⟨t368, A3, H⟩ := Bo_ H
 by_cases c4 : t368 = true
 ·subst c4
  rw [if_pos rfl] at H
  by_cases c5 : 0 ≤ a1
  ·rw [if_pos c5] at H
   have c5b0 := decide_eq_true c5
   clear c5
   by_cases c6 : a1 < (l0_0.length : Int)
   ·rw [if_pos c6] at H
    have c6b0 := decide_eq_true c6
    clear c6
    obtain ⟨t370, A7, H⟩ := Bo_ H
    obtain rfl := Option.some.inj H
    go_enter Try.func128, Try.ntmps128
    go_wp2_with (first | (refine Bv_ 2 #[.slice A0_0 l0_0.length c0_0, .slice A0_1 l0_1.length c0_1, .slice A0_2 l0_2.length c0_2] 40 ?_; intro gb367 hg w8 BK367 hb; have GW367 := Hg_ HB hg; replace HB := Hs_ HB hb; clear hb hg; obtain ⟨hcz9_0, hcz9_1, hcz9_2, hfz9_0, hfz9_1, hfz9_2⟩ := Bc3_ BK367) | (refine Gl_ (some 7) Try.func78 ((impl_isNode.calls _ _ l0_0 _ _ l0_1 _ _ l0_2 a1 true _ (Sc_ HR0_0 HB) HC0_0.out (Sc_ HR0_1 HB) HC0_1.out (Sc_ HR0_2 HB) HC0_2.out A3.out).mono ?_); rintro e w10 ⟨rfl, hb⟩; refine ⟨_, rfl, ?_⟩; replace BK367 := Bb_ BK367 hb; replace HB := Hs_ HB hb; clear hb; obtain ⟨hcz11_0, hcz11_1, hcz11_2, hfz11_0, hfz11_1, hfz11_2⟩ := Bc3_ BK367; have p369 : 0 ≤ (a1 : Int) := of_decide_eq_true As_; have q369 : a1 < (l0_0.length : Int) := of_decide_eq_true As_; obtain ⟨ad369, A369_5, c369_5, e369, hx369_0, hx369_1, hx369_2, hx369_3, hx369_4, hx369_5, hl369_5, hi369_5⟩ := at_T77 HR0_0.out a1 p369 q369; cases e369; replace hx369_0 := Bw_ hx369_0 HB; replace hx369_1 := Bw_ hx369_1 HB; replace hx369_2 := Bw_ hx369_2 HB; replace hx369_3 := Bw_ hx369_3 HB; replace hx369_4 := Bw_ hx369_4 HB; replace hx369_5 := Bw_ hx369_5 HB; have HR369_5 := Aside0.mk hi369_5; have HC369_5 := Aside0.mk hl369_5; clear hi369_5 hl369_5; replace p369 := eq_true p369; replace q369 := eq_true q369) | (go_at_call 79; (with_reducible refine (impl_within.calls ((rd_T77 l0_0 a1).f0) 11 19 t370 _ A7.out).mono ?_); rintro e w' ⟨rfl, ⟨nd, rfl⟩⟩))
    go_ret
    exact ⟨Re_, Hf_ HB⟩
   ·rw [if_neg c6] at H
    exact absurd H (by simp)
  ·rw [if_neg c5] at H
   exact absurd H (by simp)
 ·replace c4 := Bool.eq_false_iff.mpr c4
  subst c4
  rw [if_neg Ff_] at H
  obtain rfl := Option.some.inj H
  go_enter Try.func128, Try.ntmps128
  go_wp2_with (first | (refine Bv_ 2 #[.slice A0_0 l0_0.length c0_0, .slice A0_1 l0_1.length c0_1, .slice A0_2 l0_2.length c0_2] 40 ?_; intro gb367 hg w12 BK367 hb; have GW367 := Hg_ HB hg; replace HB := Hs_ HB hb; clear hb hg; obtain ⟨hcz13_0, hcz13_1, hcz13_2, hfz13_0, hfz13_1, hfz13_2⟩ := Bc3_ BK367) | (refine Gl_ (some 7) Try.func78 ((impl_isNode.calls _ _ l0_0 _ _ l0_1 _ _ l0_2 a1 false _ (Sc_ HR0_0 HB) HC0_0.out (Sc_ HR0_1 HB) HC0_1.out (Sc_ HR0_2 HB) HC0_2.out A3.out).mono ?_); rintro e w14 ⟨rfl, hb⟩; refine ⟨_, rfl, ?_⟩; replace BK367 := Bb_ BK367 hb; replace HB := Hs_ HB hb; clear hb))
  go_ret
  exact ⟨Re_, Hf_ HB⟩

end Go.Proofs.Ytmbkcbgbienjoaa.PFnExactDeepOf
