/- The machine side of the law FnExactValueOf: for each function that it reaches, a Lean function and its contract. Written by a program of this session's over the kit's print. No condition. -/
import Derived.Test.YtmbkcbgbienjoaaCmq
import Derived.Test.YtmbkcbgbienjoaaPFnExactValueOfx0
import Derived.Test.YtmbkcbgbienjoaaPFnExactValueOfx13
import Derived.Test.YtmbkcbgbienjoaaPFnExactValueOfx14
namespace Go.Proofs.Ytmbkcbgbienjoaa.PFnExactValueOf
open Go.RowKit Go.Proofs.YtmbkcbgbienjoaaW.PrintWords Go.Proofs.YtmbkcbgbienjoaaW.PrintLast Go.Proofs.YtmbkcbgbienjoaaW.PrintMore Go.Proofs.Ytmbkcbgbienjoaa.Cmp
attribute [local go_sem] max2_int min2_int max_two min_two max_three min_three max_four min_four   -- for this text's walks alone
set_option linter.unusedVariables false
set_option maxHeartbeats 8000000
set_option maxRecDepth 100000
set_option linter.unusedSimpArgs false

/-! ### spec_l10Value: function 101 -/
def spec_l10Value.f : Nat → List (S77) → List (S106) → List (S103) → Int → List ByteArray → List Int → Option (Int × Int)
 | 0, _, _, _, _, _, _ => none
 | k + 1, l0_0, l0_1, l0_2, a1, l2_0, l2_1 => if 0 ≤ a1 then (if a1 < (l0_0.length : Int) then (if ((rd_T77 l0_0 a1).f0) = 1 then (some ((rd_T77 l0_0 a1).f1, 0)) else (if ((rd_T77 l0_0 a1).f0) = 2 then ((spec_GetIn.f k l2_0 l2_1 ((rd_T77 l0_0 a1).f2)).bind fun t390 => (some (t390, 0))) else (if 0 < (((rd_T77 l0_0 a1).f5).length : Int) then ((spec_l10Value.f k l0_0 l0_1 l0_2 (rd ((rd_T77 l0_0 a1).f5) 0) l2_0 l2_1).bind fun bt392 => (if bt392.2 = 0 then (if ((rd_T77 l0_0 a1).f0) = 4 then ((spec_Denied.f bt392.1).bind fun t394 => (some (t394, 0))) else (if ((rd_T77 l0_0 a1).f0) = 5 then ((spec_Negated.f bt392.1).bind fun bt395 => (some (bt395.1, bt395.2))) else (if 1 < (((rd_T77 l0_0 a1).f5).length : Int) then ((spec_l10Value.f k l0_0 l0_1 l0_2 (rd ((rd_T77 l0_0 a1).f5) 1) l2_0 l2_1).bind fun bt398 => (if bt398.2 = 0 then ((spec_Calc.f k ((rd_T77 l0_0 a1).f1) bt392.1 bt398.1).bind fun bt400 => (some (bt400.1, bt400.2))) else (some (0, bt398.2)))) else (none)))) else (some (0, bt392.2)))) else (none)))) else (none)) else (none)
def spec_l10Value.T6 : Bool × List (List Nat × List Nat) := (true, [([], []), ([], []), ([1], [1]), ([2], [2]), ([3], [3]), ([], []), ([0, 4, 5], [0, 4, 5]), ([6], [6]), ([7], [7]), ([7], [7]), ([8, 6, 0, 1, 2, 3, 4, 5, 6, 7, 8], [8]), ([9, 10, 0, 1, 2, 3, 4, 5, 6, 7, 8, 9, 10], [9])])
def spec_l10Value.B6 : List Nat := [0, 0, 2, 6, 14, 0, 63, 127, 255, 255, 511, 2047]
theorem spec_l10Value.tab6 : rtab .any (opsOf Try.f101 6) = spec_l10Value.T6 := by kernel_rfl
theorem spec_l10Value.bits6 : waitsOk spec_l10Value.T6.2 spec_l10Value.B6 = true := by kernel_rfl
def spec_l10Value.T14 : Bool × List (List Nat × List Nat) := (true, [([], []), ([], []), ([1], [1]), ([2], [2]), ([3], [3]), ([], []), ([0, 4, 5], [0, 4, 5]), ([6], [6]), ([7], [7]), ([7], [7]), ([8, 6, 0, 1, 2, 3, 4, 5, 6, 7, 8], [8]), ([9, 10, 0, 1, 2, 3, 4, 5, 6, 7, 8, 9, 10], [9])])
def spec_l10Value.B14 : List Nat := [0, 0, 2, 6, 14, 0, 63, 127, 255, 255, 511, 2047]
theorem spec_l10Value.tab14 : rtab .any (opsOf Try.f101 14) = spec_l10Value.T14 := by kernel_rfl
theorem spec_l10Value.bits14 : waitsOk spec_l10Value.T14.2 spec_l10Value.B14 = true := by kernel_rfl
theorem spec_l10Value.calls (k : Nat) : ∀ (A0_0 : Option Addr) (c0_0 : Nat) (l0_0 : List (S77)) (A0_1 : Option Addr) (c0_1 : Nat) (l0_1 : List (S106)) (A0_2 : Option Addr) (c0_2 : Nat) (l0_2 : List (S103)) (a1 : Int) (A2_0 : Option Addr) (c2_0 : Nat) (l2_0 : List ByteArray) (A2_1 : Option Addr) (c2_1 : Nat) (l2_1 : List Int) (r1 : Int) (r2 : Int) (w : World) (hr0_0 : Kd.C k77 w A0_0 l0_0.length l0_0) (hc0_0 : l0_0.length ≤ c0_0) (hr0_1 : Kd.C k106 w A0_1 l0_1.length l0_1) (hc0_1 : l0_1.length ≤ c0_1) (hr0_2 : Kd.C k103 w A0_2 l0_2.length l0_2) (hc0_2 : l0_2.length ≤ c0_2) (hr2_0 : Kd.C Kd.string w A2_0 l2_0.length l2_0) (hc2_0 : l2_0.length ≤ c2_0) (hr2_1 : Kd.C (Kd.int .i64) w A2_1 l2_1.length l2_1) (hc2_1 : l2_1.length ≤ c2_1) (h : spec_l10Value.f k l0_0 l0_1 l0_2 a1 l2_0 l2_1 = some (r1, r2)),
  Calls Try.prog 101 #[.agg #[.slice A0_0 l0_0.length c0_0, .slice A0_1 l0_1.length c0_1, .slice A0_2 l0_2.length c0_2], .int .i64 a1, .agg #[.slice A2_0 l2_0.length c2_0, .slice A2_1 l2_1.length c2_1]] w fun e w' => e = .returned (.tuple #[.int .i64 r1, .int .i64 r2]) ∧ Below w.heap.size w w' := by
 induction k using Nat.strongRecOn with
 | _ k ih =>
 intro A0_0 c0_0 l0_0 A0_1 c0_1 l0_1 A0_2 c0_2 l0_2 a1 A2_0 c2_0 l2_0 A2_1 c2_1 l2_1 r1 r2 w hr0_0 hc0_0 hr0_1 hc0_1 hr0_2 hc0_2 hr2_0 hc2_0 hr2_1 hc2_1 h
 cases k with
 | zero => exact absurd h (by simp [spec_l10Value.f])
 | succ k =>
 simp only [spec_l10Value.f] at h
 have hu40 := Try.underlying40
 have hu42 := Try.underlying42
 have hu77 := Try.underlying77
 have HR0_0 := Aside0.mk hr0_0
 have HC0_0 := Aside0.mk hc0_0
 clear hr0_0 hc0_0
 have HR0_1 := Aside0.mk hr0_1
 have HC0_1 := Aside0.mk hc0_1
 clear hr0_1 hc0_1
 have HR0_2 := Aside0.mk hr0_2
 have HC0_2 := Aside0.mk hc0_2
 clear hr0_2 hc0_2
 have HR2_0 := Aside0.mk hr2_0
 have HC2_0 := Aside0.mk hc2_0
 clear hr2_0 hc2_0
 have HR2_1 := Aside0.mk hr2_1
 have HC2_1 := Aside0.mk hc2_1
 clear hr2_1 hc2_1
 have HB := Aside0.mk (Below.refl w.heap.size w)
 have H : (if 0 ≤ a1 then (if a1 < (l0_0.length : Int) then (if ((rd_T77 l0_0 a1).f0) = 1 then (some ((rd_T77 l0_0 a1).f1, 0)) else (if ((rd_T77 l0_0 a1).f0) = 2 then ((spec_GetIn.f k l2_0 l2_1 ((rd_T77 l0_0 a1).f2)).bind fun t390 => (some (t390, 0))) else (if 0 < (((rd_T77 l0_0 a1).f5).length : Int) then ((spec_l10Value.f k l0_0 l0_1 l0_2 (rd ((rd_T77 l0_0 a1).f5) 0) l2_0 l2_1).bind fun bt392 => (if bt392.2 = 0 then (if ((rd_T77 l0_0 a1).f0) = 4 then ((spec_Denied.f bt392.1).bind fun t394 => (some (t394, 0))) else (if ((rd_T77 l0_0 a1).f0) = 5 then ((spec_Negated.f bt392.1).bind fun bt395 => (some (bt395.1, bt395.2))) else (if 1 < (((rd_T77 l0_0 a1).f5).length : Int) then ((spec_l10Value.f k l0_0 l0_1 l0_2 (rd ((rd_T77 l0_0 a1).f5) 1) l2_0 l2_1).bind fun bt398 => (if bt398.2 = 0 then ((spec_Calc.f k ((rd_T77 l0_0 a1).f1) bt392.1 bt398.1).bind fun bt400 => (some (bt400.1, bt400.2))) else (some (0, bt398.2)))) else (none)))) else (some (0, bt392.2)))) else (none)))) else (none)) else (none)) = some (r1, r2) := h
 clear h
 by_cases c4 : 0 ≤ a1
 ·rw [if_pos c4] at H
  have c4b0 := decide_eq_true c4
  clear c4
  by_cases c5 : a1 < (l0_0.length : Int)
  ·rw [if_pos c5] at H
   have c5b0 := decide_eq_true c5
   clear c5
   by_cases c6 : ((rd_T77 l0_0 a1).f0) = 1
   ·rw [if_pos c6] at H
    have c6b0 := beq_iff_eq.mpr c6
    have c6b1 := bne_eq_false_iff_eq.mpr c6
    clear c6
    simp only [Option.some.injEq, Prod.mk.injEq] at H
    obtain ⟨rfl, rfl⟩ := H
    go_enter Try.func101, Try.ntmps101
    go_wp2_with (first | (refine Bv_ 3 #[.slice A0_0 l0_0.length c0_0, .slice A0_1 l0_1.length c0_1, .slice A0_2 l0_2.length c0_2] 40 ?_; intro gb386 hg w7 BK386 hb; have GW386 := Hg_ HB hg; replace HB := Hs_ HB hb; clear hb hg) | (refine Bv_ 5 #[.slice A2_0 l2_0.length c2_0, .slice A2_1 l2_1.length c2_1] 42 ?_; intro gb387 hg w8 BK387 hb; have GW387 := Hg_ HB hg; have NB386_387 := Bl_ BK386 hg; have NB387_386 := Bm_ NB386_387; replace BK386 := Bb_ BK386 hb; replace HB := Hs_ HB hb; clear hb hg; have hnb9 := NB386_387.out; have hnc9 := NB387_386.out; obtain ⟨hcz10_0, hcz10_1, hcz10_2, hfz10_0, hfz10_1, hfz10_2⟩ := Bc3_ BK386; have p388 : 0 ≤ (a1 : Int) := of_decide_eq_true As_; have q388 : a1 < (l0_0.length : Int) := of_decide_eq_true As_; obtain ⟨ad388, A388_5, c388_5, e388, hx388_0, hx388_1, hx388_2, hx388_3, hx388_4, hx388_5, hl388_5, hi388_5⟩ := at_T77 HR0_0.out a1 p388 q388; cases e388; replace hx388_0 := Bw_ hx388_0 HB; replace hx388_1 := Bw_ hx388_1 HB; replace hx388_2 := Bw_ hx388_2 HB; replace hx388_3 := Bw_ hx388_3 HB; replace hx388_4 := Bw_ hx388_4 HB; replace hx388_5 := Bw_ hx388_5 HB; have HR388_5 := Aside0.mk hi388_5; have HC388_5 := Aside0.mk hl388_5; clear hi388_5 hl388_5; replace p388 := eq_true p388; replace q388 := eq_true q388) | (refine Bv_ 8 #[.int .i64 0, .int .i64 0, .string (⟨#[]⟩ : ByteArray), .string (⟨#[]⟩ : ByteArray), .string (⟨#[]⟩ : ByteArray), .slice none 0 0] 77 ?_; intro gb389 hg w11 BK389 hb; have GW389 := Hg_ HB hg; have NB386_389 := Bl_ BK386 hg; have NB389_386 := Bm_ NB386_389; have NB387_389 := Bl_ BK387 hg; have NB389_387 := Bm_ NB387_389; replace BK386 := Bb_ BK386 hb; replace BK387 := Bb_ BK387 hb; replace HB := Hs_ HB hb; clear hb hg; have hnb12 := NB389_386.out; have hnc12 := NB386_389.out; have hnb13 := NB389_387.out; have hnc13 := NB387_389.out; obtain ⟨hcz14_0, hcz14_1, hcz14_2, hcz14_3, hcz14_4, hcz14_5, hfz14_0, hfz14_1, hfz14_2, hfz14_3, hfz14_4, hfz14_5⟩ := Bc6_ BK389))
    go_ret2
    exact ⟨Re_, Hf_ HB⟩
   ·rw [if_neg c6] at H
    have c6b0 := beq_eq_false_iff_ne.mpr c6
    have c6b1 := bne_iff_ne.mpr c6
    by_cases c15 : ((rd_T77 l0_0 a1).f0) = 2
    ·rw [if_pos c15] at H
     have c15b0 := beq_iff_eq.mpr c15
     have c15b1 := bne_eq_false_iff_eq.mpr c15
     clear c15
     obtain ⟨t390, A16, H⟩ := Bo_ H
     simp only [Option.some.injEq, Prod.mk.injEq] at H
     obtain ⟨rfl, rfl⟩ := H
     go_enter Try.func101, Try.ntmps101
     go_wp2_with (first | (refine Bv_ 3 #[.slice A0_0 l0_0.length c0_0, .slice A0_1 l0_1.length c0_1, .slice A0_2 l0_2.length c0_2] 40 ?_; intro gb386 hg w17 BK386 hb; have GW386 := Hg_ HB hg; replace HB := Hs_ HB hb; clear hb hg) | (refine Bv_ 5 #[.slice A2_0 l2_0.length c2_0, .slice A2_1 l2_1.length c2_1] 42 ?_; intro gb387 hg w18 BK387 hb; have GW387 := Hg_ HB hg; have NB386_387 := Bl_ BK386 hg; have NB387_386 := Bm_ NB386_387; replace BK386 := Bb_ BK386 hb; replace HB := Hs_ HB hb; clear hb hg; have hnb19 := NB386_387.out; have hnc19 := NB387_386.out; obtain ⟨hcz20_0, hcz20_1, hcz20_2, hfz20_0, hfz20_1, hfz20_2⟩ := Bc3_ BK386; have p388 : 0 ≤ (a1 : Int) := of_decide_eq_true As_; have q388 : a1 < (l0_0.length : Int) := of_decide_eq_true As_; obtain ⟨ad388, A388_5, c388_5, e388, hx388_0, hx388_1, hx388_2, hx388_3, hx388_4, hx388_5, hl388_5, hi388_5⟩ := at_T77 HR0_0.out a1 p388 q388; cases e388; replace hx388_0 := Bw_ hx388_0 HB; replace hx388_1 := Bw_ hx388_1 HB; replace hx388_2 := Bw_ hx388_2 HB; replace hx388_3 := Bw_ hx388_3 HB; replace hx388_4 := Bw_ hx388_4 HB; replace hx388_5 := Bw_ hx388_5 HB; have HR388_5 := Aside0.mk hi388_5; have HC388_5 := Aside0.mk hl388_5; clear hi388_5 hl388_5; replace p388 := eq_true p388; replace q388 := eq_true q388) | (refine Bv_ 8 #[.int .i64 0, .int .i64 0, .string (⟨#[]⟩ : ByteArray), .string (⟨#[]⟩ : ByteArray), .string (⟨#[]⟩ : ByteArray), .slice none 0 0] 77 ?_; intro gb389 hg w21 BK389 hb; have GW389 := Hg_ HB hg; have NB386_389 := Bl_ BK386 hg; have NB389_386 := Bm_ NB386_389; have NB387_389 := Bl_ BK387 hg; have NB389_387 := Bm_ NB387_389; replace BK386 := Bb_ BK386 hb; replace BK387 := Bb_ BK387 hb; replace HB := Hs_ HB hb; clear hb hg; have hnb22 := NB389_386.out; have hnc22 := NB386_389.out; have hnb23 := NB389_387.out; have hnc23 := NB387_389.out; obtain ⟨hcz24_0, hcz24_1, hcz24_2, hcz24_3, hcz24_4, hcz24_5, hfz24_0, hfz24_1, hfz24_2, hfz24_3, hfz24_4, hfz24_5⟩ := Bc6_ BK389; obtain ⟨hcz25_0, hcz25_1, hfz25_0, hfz25_1⟩ := Bc2_ BK387) | (refine Gl_ (some 29) Try.func135 ((spec_GetIn.calls k _ _ l2_0 _ _ l2_1 ((rd_T77 l0_0 a1).f2) t390 _ (Kd.C_below HR2_0.out (Hf_ HB)) HC2_0.out (Kd.C_below HR2_1.out (Hf_ HB)) HC2_1.out A16.out).mono ?_); rintro e w26 ⟨rfl, hb⟩; refine ⟨_, rfl, ?_⟩; replace BK386 := Aside0.mk (blk_below (g := gb386) (o := .cells #[.slice (some ad388) l0_0.length c0_0, .slice A0_1 l0_1.length c0_1, .slice A0_2 l0_2.length c0_2] 40 (0, 0)) (by (with_reducible repeat (first | refine blk_drewN ?_ _ | refine blk_drew ?_ | refine blk_alloc ?_ _)); refine blk_far ?_ NB386_389.out _; (with_reducible repeat (first | refine blk_drewN ?_ _ | refine blk_drew ?_ | refine blk_alloc ?_ _)); refine blk_far ?_ NB386_389.out _; (with_reducible repeat (first | refine blk_drewN ?_ _ | refine blk_drew ?_ | refine blk_alloc ?_ _)); refine blk_far ?_ NB386_389.out _; (with_reducible repeat (first | refine blk_drewN ?_ _ | refine blk_drew ?_ | refine blk_alloc ?_ _)); refine blk_far ?_ NB386_389.out _; (with_reducible repeat (first | refine blk_drewN ?_ _ | refine blk_drew ?_ | refine blk_alloc ?_ _)); refine blk_far ?_ NB386_389.out _; (with_reducible repeat (first | refine blk_drewN ?_ _ | refine blk_drew ?_ | refine blk_alloc ?_ _)); refine blk_far ?_ NB386_389.out _; (with_reducible repeat (first | refine blk_drewN ?_ _ | refine blk_drew ?_ | refine blk_alloc ?_ _)); exact BK386.out) hb); replace BK387 := Aside0.mk (blk_below (g := gb387) (o := .cells #[.slice A2_0 l2_0.length c2_0, .slice A2_1 l2_1.length c2_1] 42 (0, 0)) (by (with_reducible repeat (first | refine blk_drewN ?_ _ | refine blk_drew ?_ | refine blk_alloc ?_ _)); refine blk_far ?_ NB387_389.out _; (with_reducible repeat (first | refine blk_drewN ?_ _ | refine blk_drew ?_ | refine blk_alloc ?_ _)); refine blk_far ?_ NB387_389.out _; (with_reducible repeat (first | refine blk_drewN ?_ _ | refine blk_drew ?_ | refine blk_alloc ?_ _)); refine blk_far ?_ NB387_389.out _; (with_reducible repeat (first | refine blk_drewN ?_ _ | refine blk_drew ?_ | refine blk_alloc ?_ _)); refine blk_far ?_ NB387_389.out _; (with_reducible repeat (first | refine blk_drewN ?_ _ | refine blk_drew ?_ | refine blk_alloc ?_ _)); refine blk_far ?_ NB387_389.out _; (with_reducible repeat (first | refine blk_drewN ?_ _ | refine blk_drew ?_ | refine blk_alloc ?_ _)); refine blk_far ?_ NB387_389.out _; (with_reducible repeat (first | refine blk_drewN ?_ _ | refine blk_drew ?_ | refine blk_alloc ?_ _)); exact BK387.out) hb); replace BK389 := Aside0.mk (blk_below (g := gb389) (o := .cells #[.int .i64 ((rd_T77 l0_0 a1).f0), .int .i64 ((rd_T77 l0_0 a1).f1), .string ((rd_T77 l0_0 a1).f2), .string ((rd_T77 l0_0 a1).f3), .string ((rd_T77 l0_0 a1).f4), .slice A388_5 ((rd_T77 l0_0 a1).f5).length c388_5] 77 (0, 0)) (by (with_reducible repeat (first | refine blk_drewN ?_ _ | refine blk_drew ?_ | refine blk_alloc ?_ _)); refine blk_put (cs := #[.int .i64 ((rd_T77 l0_0 a1).f0), .int .i64 ((rd_T77 l0_0 a1).f1), .string ((rd_T77 l0_0 a1).f2), .string ((rd_T77 l0_0 a1).f3), .string ((rd_T77 l0_0 a1).f4), .slice none 0 0]) ?_ 5 _ rfl; (with_reducible repeat (first | refine blk_drewN ?_ _ | refine blk_drew ?_ | refine blk_alloc ?_ _)); refine blk_put (cs := #[.int .i64 ((rd_T77 l0_0 a1).f0), .int .i64 ((rd_T77 l0_0 a1).f1), .string ((rd_T77 l0_0 a1).f2), .string ((rd_T77 l0_0 a1).f3), .string (⟨#[]⟩ : ByteArray), .slice none 0 0]) ?_ 4 _ rfl; (with_reducible repeat (first | refine blk_drewN ?_ _ | refine blk_drew ?_ | refine blk_alloc ?_ _)); refine blk_put (cs := #[.int .i64 ((rd_T77 l0_0 a1).f0), .int .i64 ((rd_T77 l0_0 a1).f1), .string ((rd_T77 l0_0 a1).f2), .string (⟨#[]⟩ : ByteArray), .string (⟨#[]⟩ : ByteArray), .slice none 0 0]) ?_ 3 _ rfl; (with_reducible repeat (first | refine blk_drewN ?_ _ | refine blk_drew ?_ | refine blk_alloc ?_ _)); refine blk_put (cs := #[.int .i64 ((rd_T77 l0_0 a1).f0), .int .i64 ((rd_T77 l0_0 a1).f1), .string (⟨#[]⟩ : ByteArray), .string (⟨#[]⟩ : ByteArray), .string (⟨#[]⟩ : ByteArray), .slice none 0 0]) ?_ 2 _ rfl; (with_reducible repeat (first | refine blk_drewN ?_ _ | refine blk_drew ?_ | refine blk_alloc ?_ _)); refine blk_put (cs := #[.int .i64 ((rd_T77 l0_0 a1).f0), .int .i64 0, .string (⟨#[]⟩ : ByteArray), .string (⟨#[]⟩ : ByteArray), .string (⟨#[]⟩ : ByteArray), .slice none 0 0]) ?_ 1 _ rfl; (with_reducible repeat (first | refine blk_drewN ?_ _ | refine blk_drew ?_ | refine blk_alloc ?_ _)); refine blk_put (cs := #[.int .i64 0, .int .i64 0, .string (⟨#[]⟩ : ByteArray), .string (⟨#[]⟩ : ByteArray), .string (⟨#[]⟩ : ByteArray), .slice none 0 0]) ?_ 0 _ rfl; (with_reducible repeat (first | refine blk_drewN ?_ _ | refine blk_drew ?_ | refine blk_alloc ?_ _)); exact BK389.out) hb); replace HB := Hs_ HB hb; clear hb))
     go_ret2
     exact ⟨Re_, Hf_ HB⟩
    ·rw [if_neg c15] at H
     have c15b0 := beq_eq_false_iff_ne.mpr c15
     have c15b1 := bne_iff_ne.mpr c15
     by_cases c27 : 0 < (((rd_T77 l0_0 a1).f5).length : Int)
     ·rw [if_pos c27] at H
      have c27b0 := decide_eq_true c27
      have c27b1 : decide (0 < ((rd_T77 l0_0 a1).f5).length) = true := decide_eq_true (by omega)
      clear c27
      obtain ⟨⟨t392, t393⟩, A28, H⟩ := Bo_ H
      try dsimp only at H
      by_cases c29 : t393 = 0
      ·rw [if_pos c29] at H
       have c29b0 := beq_iff_eq.mpr c29
       have c29b1 := bne_eq_false_iff_eq.mpr c29
       clear c29
       by_cases c30 : ((rd_T77 l0_0 a1).f0) = 4
       ·rw [if_pos c30] at H
        have c30b0 := beq_iff_eq.mpr c30
        have c30b1 := bne_eq_false_iff_eq.mpr c30
        clear c30
        obtain ⟨t394, A31, H⟩ := Bo_ H
        simp only [Option.some.injEq, Prod.mk.injEq] at H
        obtain ⟨rfl, rfl⟩ := H
        go_enter Try.func101, Try.ntmps101
        try go_wp2_with (first | (refine Bv_ 3 #[.slice A0_0 l0_0.length c0_0, .slice A0_1 l0_1.length c0_1, .slice A0_2 l0_2.length c0_2] 40 ?_; intro gb386 hg w32 BK386 hb; have GW386 := Hg_ HB hg; replace HB := Hs_ HB hb; clear hb hg) | (refine Bv_ 5 #[.slice A2_0 l2_0.length c2_0, .slice A2_1 l2_1.length c2_1] 42 ?_; intro gb387 hg w33 BK387 hb; have GW387 := Hg_ HB hg; have NB386_387 := Bl_ BK386 hg; have NB387_386 := Bm_ NB386_387; replace BK386 := Bb_ BK386 hb; replace HB := Hs_ HB hb; clear hb hg; have hnb34 := NB386_387.out; have hnc34 := NB387_386.out; obtain ⟨hcz35_0, hcz35_1, hcz35_2, hfz35_0, hfz35_1, hfz35_2⟩ := Bc3_ BK386; have p388 : 0 ≤ (a1 : Int) := of_decide_eq_true As_; have q388 : a1 < (l0_0.length : Int) := of_decide_eq_true As_; obtain ⟨ad388, A388_5, c388_5, e388, hx388_0, hx388_1, hx388_2, hx388_3, hx388_4, hx388_5, hl388_5, hi388_5⟩ := at_T77 HR0_0.out a1 p388 q388; cases e388; replace hx388_0 := Bw_ hx388_0 HB; replace hx388_1 := Bw_ hx388_1 HB; replace hx388_2 := Bw_ hx388_2 HB; replace hx388_3 := Bw_ hx388_3 HB; replace hx388_4 := Bw_ hx388_4 HB; replace hx388_5 := Bw_ hx388_5 HB; have HR388_5 := Aside0.mk hi388_5; have HC388_5 := Aside0.mk hl388_5; clear hi388_5 hl388_5; replace p388 := eq_true p388; replace q388 := eq_true q388) | (refine Bv_ 8 #[.int .i64 0, .int .i64 0, .string (⟨#[]⟩ : ByteArray), .string (⟨#[]⟩ : ByteArray), .string (⟨#[]⟩ : ByteArray), .slice none 0 0] 77 ?_; intro gb389 hg w36 BK389 hb; have GW389 := Hg_ HB hg; have NB386_389 := Bl_ BK386 hg; have NB389_386 := Bm_ NB386_389; have NB387_389 := Bl_ BK387 hg; have NB389_387 := Bm_ NB387_389; replace BK386 := Bb_ BK386 hb; replace BK387 := Bb_ BK387 hb; replace HB := Hs_ HB hb; clear hb hg; have hnb37 := NB389_386.out; have hnc37 := NB386_389.out; have hnb38 := NB389_387.out; have hnc38 := NB387_389.out; obtain ⟨hcz39_0, hcz39_1, hcz39_2, hcz39_3, hcz39_4, hcz39_5, hfz39_0, hfz39_1, hfz39_2, hfz39_3, hfz39_4, hfz39_5⟩ := Bc6_ BK389))
        have n0_ : Aside0 (((((((w36.setCell ⟨gb389, 0, none⟩ (.int .i64 ((rd_T77 l0_0 a1).f0))).setCell ⟨gb389, 1, none⟩ (.int .i64 ((rd_T77 l0_0 a1).f1))).setCell ⟨gb389, 2, none⟩ (.string ((rd_T77 l0_0 a1).f2))).setCell ⟨gb389, 3, none⟩ (.string ((rd_T77 l0_0 a1).f3))).setCell ⟨gb389, 4, none⟩ (.string ((rd_T77 l0_0 a1).f4))).setCell ⟨gb389, 5, none⟩ (.slice A388_5 ((rd_T77 l0_0 a1).f5).length c388_5)).heap[gb386]? = some (.cells #[.slice (some ad388) l0_0.length c0_0, .slice A0_1 l0_1.length c0_1, .slice A0_2 l0_2.length c0_2] 40 (0, 0))) := ⟨by (with_reducible repeat (first | refine blk_drewN ?_ _ | refine blk_drew ?_ | refine blk_alloc ?_ _)); refine blk_far ?_ NB386_389.out _; (with_reducible repeat (first | refine blk_drewN ?_ _ | refine blk_drew ?_ | refine blk_alloc ?_ _)); refine blk_far ?_ NB386_389.out _; (with_reducible repeat (first | refine blk_drewN ?_ _ | refine blk_drew ?_ | refine blk_alloc ?_ _)); refine blk_far ?_ NB386_389.out _; (with_reducible repeat (first | refine blk_drewN ?_ _ | refine blk_drew ?_ | refine blk_alloc ?_ _)); refine blk_far ?_ NB386_389.out _; (with_reducible repeat (first | refine blk_drewN ?_ _ | refine blk_drew ?_ | refine blk_alloc ?_ _)); refine blk_far ?_ NB386_389.out _; (with_reducible repeat (first | refine blk_drewN ?_ _ | refine blk_drew ?_ | refine blk_alloc ?_ _)); refine blk_far ?_ NB386_389.out _; (with_reducible repeat (first | refine blk_drewN ?_ _ | refine blk_drew ?_ | refine blk_alloc ?_ _)); exact BK386.out⟩
        have n1_ : Aside0 (((((((w36.setCell ⟨gb389, 0, none⟩ (.int .i64 ((rd_T77 l0_0 a1).f0))).setCell ⟨gb389, 1, none⟩ (.int .i64 ((rd_T77 l0_0 a1).f1))).setCell ⟨gb389, 2, none⟩ (.string ((rd_T77 l0_0 a1).f2))).setCell ⟨gb389, 3, none⟩ (.string ((rd_T77 l0_0 a1).f3))).setCell ⟨gb389, 4, none⟩ (.string ((rd_T77 l0_0 a1).f4))).setCell ⟨gb389, 5, none⟩ (.slice A388_5 ((rd_T77 l0_0 a1).f5).length c388_5)).heap[gb387]? = some (.cells #[.slice A2_0 l2_0.length c2_0, .slice A2_1 l2_1.length c2_1] 42 (0, 0))) := ⟨by (with_reducible repeat (first | refine blk_drewN ?_ _ | refine blk_drew ?_ | refine blk_alloc ?_ _)); refine blk_far ?_ NB387_389.out _; (with_reducible repeat (first | refine blk_drewN ?_ _ | refine blk_drew ?_ | refine blk_alloc ?_ _)); refine blk_far ?_ NB387_389.out _; (with_reducible repeat (first | refine blk_drewN ?_ _ | refine blk_drew ?_ | refine blk_alloc ?_ _)); refine blk_far ?_ NB387_389.out _; (with_reducible repeat (first | refine blk_drewN ?_ _ | refine blk_drew ?_ | refine blk_alloc ?_ _)); refine blk_far ?_ NB387_389.out _; (with_reducible repeat (first | refine blk_drewN ?_ _ | refine blk_drew ?_ | refine blk_alloc ?_ _)); refine blk_far ?_ NB387_389.out _; (with_reducible repeat (first | refine blk_drewN ?_ _ | refine blk_drew ?_ | refine blk_alloc ?_ _)); refine blk_far ?_ NB387_389.out _; (with_reducible repeat (first | refine blk_drewN ?_ _ | refine blk_drew ?_ | refine blk_alloc ?_ _)); exact BK387.out⟩
        have n2_ : Aside0 (((((((w36.setCell ⟨gb389, 0, none⟩ (.int .i64 ((rd_T77 l0_0 a1).f0))).setCell ⟨gb389, 1, none⟩ (.int .i64 ((rd_T77 l0_0 a1).f1))).setCell ⟨gb389, 2, none⟩ (.string ((rd_T77 l0_0 a1).f2))).setCell ⟨gb389, 3, none⟩ (.string ((rd_T77 l0_0 a1).f3))).setCell ⟨gb389, 4, none⟩ (.string ((rd_T77 l0_0 a1).f4))).setCell ⟨gb389, 5, none⟩ (.slice A388_5 ((rd_T77 l0_0 a1).f5).length c388_5)).heap[gb389]? = some (.cells #[.int .i64 ((rd_T77 l0_0 a1).f0), .int .i64 ((rd_T77 l0_0 a1).f1), .string ((rd_T77 l0_0 a1).f2), .string ((rd_T77 l0_0 a1).f3), .string ((rd_T77 l0_0 a1).f4), .slice A388_5 ((rd_T77 l0_0 a1).f5).length c388_5] 77 (0, 0))) := ⟨by (with_reducible repeat (first | refine blk_drewN ?_ _ | refine blk_drew ?_ | refine blk_alloc ?_ _)); refine blk_put (cs := #[.int .i64 ((rd_T77 l0_0 a1).f0), .int .i64 ((rd_T77 l0_0 a1).f1), .string ((rd_T77 l0_0 a1).f2), .string ((rd_T77 l0_0 a1).f3), .string ((rd_T77 l0_0 a1).f4), .slice none 0 0]) ?_ 5 _ rfl; (with_reducible repeat (first | refine blk_drewN ?_ _ | refine blk_drew ?_ | refine blk_alloc ?_ _)); refine blk_put (cs := #[.int .i64 ((rd_T77 l0_0 a1).f0), .int .i64 ((rd_T77 l0_0 a1).f1), .string ((rd_T77 l0_0 a1).f2), .string ((rd_T77 l0_0 a1).f3), .string (⟨#[]⟩ : ByteArray), .slice none 0 0]) ?_ 4 _ rfl; (with_reducible repeat (first | refine blk_drewN ?_ _ | refine blk_drew ?_ | refine blk_alloc ?_ _)); refine blk_put (cs := #[.int .i64 ((rd_T77 l0_0 a1).f0), .int .i64 ((rd_T77 l0_0 a1).f1), .string ((rd_T77 l0_0 a1).f2), .string (⟨#[]⟩ : ByteArray), .string (⟨#[]⟩ : ByteArray), .slice none 0 0]) ?_ 3 _ rfl; (with_reducible repeat (first | refine blk_drewN ?_ _ | refine blk_drew ?_ | refine blk_alloc ?_ _)); refine blk_put (cs := #[.int .i64 ((rd_T77 l0_0 a1).f0), .int .i64 ((rd_T77 l0_0 a1).f1), .string (⟨#[]⟩ : ByteArray), .string (⟨#[]⟩ : ByteArray), .string (⟨#[]⟩ : ByteArray), .slice none 0 0]) ?_ 2 _ rfl; (with_reducible repeat (first | refine blk_drewN ?_ _ | refine blk_drew ?_ | refine blk_alloc ?_ _)); refine blk_put (cs := #[.int .i64 ((rd_T77 l0_0 a1).f0), .int .i64 0, .string (⟨#[]⟩ : ByteArray), .string (⟨#[]⟩ : ByteArray), .string (⟨#[]⟩ : ByteArray), .slice none 0 0]) ?_ 1 _ rfl; (with_reducible repeat (first | refine blk_drewN ?_ _ | refine blk_drew ?_ | refine blk_alloc ?_ _)); refine blk_put (cs := #[.int .i64 0, .int .i64 0, .string (⟨#[]⟩ : ByteArray), .string (⟨#[]⟩ : ByteArray), .string (⟨#[]⟩ : ByteArray), .slice none 0 0]) ?_ 0 _ rfl; (with_reducible repeat (first | refine blk_drewN ?_ _ | refine blk_drew ?_ | refine blk_alloc ?_ _)); exact BK389.out⟩
        have n3_ : Aside0 (Below w.heap.size w ((((((w36.setCell ⟨gb389, 0, none⟩ (.int .i64 ((rd_T77 l0_0 a1).f0))).setCell ⟨gb389, 1, none⟩ (.int .i64 ((rd_T77 l0_0 a1).f1))).setCell ⟨gb389, 2, none⟩ (.string ((rd_T77 l0_0 a1).f2))).setCell ⟨gb389, 3, none⟩ (.string ((rd_T77 l0_0 a1).f3))).setCell ⟨gb389, 4, none⟩ (.string ((rd_T77 l0_0 a1).f4))).setCell ⟨gb389, 5, none⟩ (.slice A388_5 ((rd_T77 l0_0 a1).f5).length c388_5))) := ⟨Hf_ HB⟩
        (try clear BK386)
        (try clear BK387)
        (try clear BK389)
        (try clear HB)
        generalize ((((((w36.setCell ⟨gb389, 0, none⟩ (.int .i64 ((rd_T77 l0_0 a1).f0))).setCell ⟨gb389, 1, none⟩ (.int .i64 ((rd_T77 l0_0 a1).f1))).setCell ⟨gb389, 2, none⟩ (.string ((rd_T77 l0_0 a1).f2))).setCell ⟨gb389, 3, none⟩ (.string ((rd_T77 l0_0 a1).f3))).setCell ⟨gb389, 4, none⟩ (.string ((rd_T77 l0_0 a1).f4))).setCell ⟨gb389, 5, none⟩ (.slice A388_5 ((rd_T77 l0_0 a1).f5).length c388_5)) = w40 at n0_ n1_ n2_ n3_ ⊢
        have BK386 := n0_
        have BK387 := n1_
        have BK389 := n2_
        have HB := n3_
        clear n0_ n1_ n2_ n3_
        replace BK386 := Aside0.mk (blk_drew BK386.out); replace BK387 := Aside0.mk (blk_drew BK387.out); replace BK389 := Aside0.mk (blk_drew BK389.out); replace HB := Aside0.mk (below_drew1 HB.out)
        have p391 : 0 ≤ (0 : Int) := (by omega)
        have q391 : 0 < (((rd_T77 l0_0 a1).f5).length : Int) := of_decide_eq_true As_
        obtain ⟨ad391, e391, hx391_0⟩ := Kd.at_int HR388_5.out 0 p391 q391
        have hw391_0 := hx391_0
        (try rw [show ((0 : Int)).toNat = 0 from rfl] at hw391_0)
        (try rw [show 0 * 1 = 0 from rfl] at hw391_0)
        (try rw [Addr.add_zero'] at hw391_0)
        cases e391
        have qi391 : (0 < ((rd_T77 l0_0 a1).f5).length) = True := eq_true (by omega)
        (try rw [show ((0 : Int)).toNat = 0 from rfl] at hx391_0)
        (try rw [Addr.add_zero'] at hx391_0)
        replace hx391_0 := Bw_ hx391_0 HB
        replace p391 := eq_true p391
        replace q391 := eq_true q391
        refine start_ (n := 12) (S := fun w' => w'.cell? ⟨gb386, 0, none⟩ = some (.slice (some ad388) l0_0.length c0_0) ∧ w'.cell? ⟨gb386, 1, none⟩ = some (.slice A0_1 l0_1.length c0_1) ∧ w'.cell? ⟨gb386, 2, none⟩ = some (.slice A0_2 l0_2.length c0_2) ∧ w'.cell? ⟨gb389, 0, none⟩ = some (.int .i64 ((rd_T77 l0_0 a1).f0)) ∧ w'.cell? ⟨gb389, 1, none⟩ = some (.int .i64 ((rd_T77 l0_0 a1).f1)) ∧ w'.cell? ⟨gb389, 2, none⟩ = some (.string ((rd_T77 l0_0 a1).f2)) ∧ w'.cell? ⟨gb389, 3, none⟩ = some (.string ((rd_T77 l0_0 a1).f3)) ∧ w'.cell? ⟨gb389, 4, none⟩ = some (.string ((rd_T77 l0_0 a1).f4)) ∧ w'.cell? ⟨gb389, 5, none⟩ = some (.slice (some ad391) ((rd_T77 l0_0 a1).f5).length c388_5) ∧ w'.cell? ⟨gb387, 0, none⟩ = some (.slice A2_0 l2_0.length c2_0) ∧ w'.cell? ⟨gb387, 1, none⟩ = some (.slice A2_1 l2_1.length c2_1) ∧ w'.cell? ad391 = some (.int .i64 (rd ((rd_T77 l0_0 a1).f5) 0))) (ds := []) #[false, false, false, false, false, false, false, false, false, false, false, false] (by kernel_rfl) rfl rfl ⟨(blk_cell BK386.out 0).trans rfl, (blk_cell BK386.out 1).trans rfl, (blk_cell BK386.out 2).trans rfl, (blk_cell BK389.out 0).trans rfl, (blk_cell BK389.out 1).trans rfl, (blk_cell BK389.out 2).trans rfl, (blk_cell BK389.out 3).trans rfl, (blk_cell BK389.out 4).trans rfl, (blk_cell BK389.out 5).trans rfl, (blk_cell BK387.out 0).trans rfl, (blk_cell BK387.out 1).trans rfl, (Bw_ hw391_0 HB)⟩ (fun hHeld => ?_); refine with_tabW spec_l10Value.tab6 spec_l10Value.bits6 (fun HT_ HW_ => ?_)
        generalize w40.drew = w41 at BK386 BK387 BK389 HB hx391_0 hHeld ⊢
        refine Pu_ 1 (some 32) HT_ ?_
        refine Tk_ 0 (some 31) HT_ HW_ hHeld ?_
        refine Tk_ 2 (some 33) HT_ HW_ hHeld ?_
        refine Pu_ 3 (some 34) HT_ ?_
        refine Tk_ 4 (some 35) HT_ HW_ hHeld ?_
        refine Tk_ 5 (some 36) HT_ HW_ hHeld ?_
        refine On_ 6 (some 37) HT_ (fun K hK => ?_)
        refine Gs_ Try.func101 ((ih k (by omega) _ _ l0_0 _ _ l0_1 _ _ l0_2 (rd ((rd_T77 l0_0 a1).f5) 0) _ _ l2_0 _ _ l2_1 t392 t393 _ (Sc_ HR0_0 HB) HC0_0.out (Sc_ HR0_1 HB) HC0_1.out (Sc_ HR0_2 HB) HC0_2.out (Sc_ HR2_0 HB) HC2_0.out (Sc_ HR2_1 HB) HC2_1.out A28.out).mono ?_)
        rintro e w42 ⟨rfl, hb⟩
        refine ⟨_, rfl, ?_⟩
        replace BK386 := Bb_ BK386 hb; replace BK387 := Bb_ BK387 hb; replace BK389 := Bb_ BK389 hb; replace HB := Hs_ HB hb
        clear hb
        refine hK.out _ _ ⟨(blk_cell BK386.out 0).trans rfl, (blk_cell BK386.out 1).trans rfl, (blk_cell BK386.out 2).trans rfl, (blk_cell BK389.out 0).trans rfl, (blk_cell BK389.out 1).trans rfl, (blk_cell BK389.out 2).trans rfl, (blk_cell BK389.out 3).trans rfl, (blk_cell BK389.out 4).trans rfl, (blk_cell BK389.out 5).trans rfl, (blk_cell BK387.out 0).trans rfl, (blk_cell BK387.out 1).trans rfl, (Bw_ hw391_0 HB)⟩ (fun hHeld => ?_)
        clear hK K
        refine No_ (some 37) ?_
        refine Pu_ 7 (some 30) HT_ ?_
        refine Pu_ 8 (some 38) HT_ ?_
        refine Pu_ 9 (some 39) HT_ ?_
        refine Pu_ 10 (some 9) HT_ ?_
        refine Pu_ 11 (some 10) HT_ ?_
        refine done_ (done_of HT_.out (by kernel_rfl)) ?_
        obtain ⟨hcz43_0, hcz43_1, hcz43_2, hcz43_3, hcz43_4, hcz43_5, hfz43_0, hfz43_1, hfz43_2, hfz43_3, hfz43_4, hfz43_5⟩ := Bc6_ BK389
        try go_wp2_with (first | (refine Gl_ (some 48) Try.func136 ((spec_Denied.calls t392 t394 _ A31.out).mono ?_); rintro e w' ⟨rfl, ⟨nd, rfl⟩⟩; refine ⟨_, rfl, ?_⟩))
        go_ret2
        exact ⟨Re_, Hf_ HB⟩
       ·rw [if_neg c30] at H
        have c30b0 := beq_eq_false_iff_ne.mpr c30
        have c30b1 := bne_iff_ne.mpr c30
        by_cases c44 : ((rd_T77 l0_0 a1).f0) = 5
        ·rw [if_pos c44] at H
         have c44b0 := beq_iff_eq.mpr c44
         have c44b1 := bne_eq_false_iff_eq.mpr c44
         clear c44
         obtain ⟨⟨t395, t396⟩, A45, H⟩ := Bo_ H
         try dsimp only at H
         simp only [Option.some.injEq, Prod.mk.injEq] at H
         obtain ⟨rfl, rfl⟩ := H
         go_enter Try.func101, Try.ntmps101
         try go_wp2_with (first | (refine Bv_ 3 #[.slice A0_0 l0_0.length c0_0, .slice A0_1 l0_1.length c0_1, .slice A0_2 l0_2.length c0_2] 40 ?_; intro gb386 hg w46 BK386 hb; have GW386 := Hg_ HB hg; replace HB := Hs_ HB hb; clear hb hg) | (refine Bv_ 5 #[.slice A2_0 l2_0.length c2_0, .slice A2_1 l2_1.length c2_1] 42 ?_; intro gb387 hg w47 BK387 hb; have GW387 := Hg_ HB hg; have NB386_387 := Bl_ BK386 hg; have NB387_386 := Bm_ NB386_387; replace BK386 := Bb_ BK386 hb; replace HB := Hs_ HB hb; clear hb hg; have hnb48 := NB386_387.out; have hnc48 := NB387_386.out; obtain ⟨hcz49_0, hcz49_1, hcz49_2, hfz49_0, hfz49_1, hfz49_2⟩ := Bc3_ BK386; have p388 : 0 ≤ (a1 : Int) := of_decide_eq_true As_; have q388 : a1 < (l0_0.length : Int) := of_decide_eq_true As_; obtain ⟨ad388, A388_5, c388_5, e388, hx388_0, hx388_1, hx388_2, hx388_3, hx388_4, hx388_5, hl388_5, hi388_5⟩ := at_T77 HR0_0.out a1 p388 q388; cases e388; replace hx388_0 := Bw_ hx388_0 HB; replace hx388_1 := Bw_ hx388_1 HB; replace hx388_2 := Bw_ hx388_2 HB; replace hx388_3 := Bw_ hx388_3 HB; replace hx388_4 := Bw_ hx388_4 HB; replace hx388_5 := Bw_ hx388_5 HB; have HR388_5 := Aside0.mk hi388_5; have HC388_5 := Aside0.mk hl388_5; clear hi388_5 hl388_5; replace p388 := eq_true p388; replace q388 := eq_true q388) | (refine Bv_ 8 #[.int .i64 0, .int .i64 0, .string (⟨#[]⟩ : ByteArray), .string (⟨#[]⟩ : ByteArray), .string (⟨#[]⟩ : ByteArray), .slice none 0 0] 77 ?_; intro gb389 hg w50 BK389 hb; have GW389 := Hg_ HB hg; have NB386_389 := Bl_ BK386 hg; have NB389_386 := Bm_ NB386_389; have NB387_389 := Bl_ BK387 hg; have NB389_387 := Bm_ NB387_389; replace BK386 := Bb_ BK386 hb; replace BK387 := Bb_ BK387 hb; replace HB := Hs_ HB hb; clear hb hg; have hnb51 := NB389_386.out; have hnc51 := NB386_389.out; have hnb52 := NB389_387.out; have hnc52 := NB387_389.out; obtain ⟨hcz53_0, hcz53_1, hcz53_2, hcz53_3, hcz53_4, hcz53_5, hfz53_0, hfz53_1, hfz53_2, hfz53_3, hfz53_4, hfz53_5⟩ := Bc6_ BK389))
         have n0_ : Aside0 (((((((w50.setCell ⟨gb389, 0, none⟩ (.int .i64 ((rd_T77 l0_0 a1).f0))).setCell ⟨gb389, 1, none⟩ (.int .i64 ((rd_T77 l0_0 a1).f1))).setCell ⟨gb389, 2, none⟩ (.string ((rd_T77 l0_0 a1).f2))).setCell ⟨gb389, 3, none⟩ (.string ((rd_T77 l0_0 a1).f3))).setCell ⟨gb389, 4, none⟩ (.string ((rd_T77 l0_0 a1).f4))).setCell ⟨gb389, 5, none⟩ (.slice A388_5 ((rd_T77 l0_0 a1).f5).length c388_5)).heap[gb386]? = some (.cells #[.slice (some ad388) l0_0.length c0_0, .slice A0_1 l0_1.length c0_1, .slice A0_2 l0_2.length c0_2] 40 (0, 0))) := ⟨by (with_reducible repeat (first | refine blk_drewN ?_ _ | refine blk_drew ?_ | refine blk_alloc ?_ _)); refine blk_far ?_ NB386_389.out _; (with_reducible repeat (first | refine blk_drewN ?_ _ | refine blk_drew ?_ | refine blk_alloc ?_ _)); refine blk_far ?_ NB386_389.out _; (with_reducible repeat (first | refine blk_drewN ?_ _ | refine blk_drew ?_ | refine blk_alloc ?_ _)); refine blk_far ?_ NB386_389.out _; (with_reducible repeat (first | refine blk_drewN ?_ _ | refine blk_drew ?_ | refine blk_alloc ?_ _)); refine blk_far ?_ NB386_389.out _; (with_reducible repeat (first | refine blk_drewN ?_ _ | refine blk_drew ?_ | refine blk_alloc ?_ _)); refine blk_far ?_ NB386_389.out _; (with_reducible repeat (first | refine blk_drewN ?_ _ | refine blk_drew ?_ | refine blk_alloc ?_ _)); refine blk_far ?_ NB386_389.out _; (with_reducible repeat (first | refine blk_drewN ?_ _ | refine blk_drew ?_ | refine blk_alloc ?_ _)); exact BK386.out⟩
         have n1_ : Aside0 (((((((w50.setCell ⟨gb389, 0, none⟩ (.int .i64 ((rd_T77 l0_0 a1).f0))).setCell ⟨gb389, 1, none⟩ (.int .i64 ((rd_T77 l0_0 a1).f1))).setCell ⟨gb389, 2, none⟩ (.string ((rd_T77 l0_0 a1).f2))).setCell ⟨gb389, 3, none⟩ (.string ((rd_T77 l0_0 a1).f3))).setCell ⟨gb389, 4, none⟩ (.string ((rd_T77 l0_0 a1).f4))).setCell ⟨gb389, 5, none⟩ (.slice A388_5 ((rd_T77 l0_0 a1).f5).length c388_5)).heap[gb387]? = some (.cells #[.slice A2_0 l2_0.length c2_0, .slice A2_1 l2_1.length c2_1] 42 (0, 0))) := ⟨by (with_reducible repeat (first | refine blk_drewN ?_ _ | refine blk_drew ?_ | refine blk_alloc ?_ _)); refine blk_far ?_ NB387_389.out _; (with_reducible repeat (first | refine blk_drewN ?_ _ | refine blk_drew ?_ | refine blk_alloc ?_ _)); refine blk_far ?_ NB387_389.out _; (with_reducible repeat (first | refine blk_drewN ?_ _ | refine blk_drew ?_ | refine blk_alloc ?_ _)); refine blk_far ?_ NB387_389.out _; (with_reducible repeat (first | refine blk_drewN ?_ _ | refine blk_drew ?_ | refine blk_alloc ?_ _)); refine blk_far ?_ NB387_389.out _; (with_reducible repeat (first | refine blk_drewN ?_ _ | refine blk_drew ?_ | refine blk_alloc ?_ _)); refine blk_far ?_ NB387_389.out _; (with_reducible repeat (first | refine blk_drewN ?_ _ | refine blk_drew ?_ | refine blk_alloc ?_ _)); refine blk_far ?_ NB387_389.out _; (with_reducible repeat (first | refine blk_drewN ?_ _ | refine blk_drew ?_ | refine blk_alloc ?_ _)); exact BK387.out⟩
         have n2_ : Aside0 (((((((w50.setCell ⟨gb389, 0, none⟩ (.int .i64 ((rd_T77 l0_0 a1).f0))).setCell ⟨gb389, 1, none⟩ (.int .i64 ((rd_T77 l0_0 a1).f1))).setCell ⟨gb389, 2, none⟩ (.string ((rd_T77 l0_0 a1).f2))).setCell ⟨gb389, 3, none⟩ (.string ((rd_T77 l0_0 a1).f3))).setCell ⟨gb389, 4, none⟩ (.string ((rd_T77 l0_0 a1).f4))).setCell ⟨gb389, 5, none⟩ (.slice A388_5 ((rd_T77 l0_0 a1).f5).length c388_5)).heap[gb389]? = some (.cells #[.int .i64 ((rd_T77 l0_0 a1).f0), .int .i64 ((rd_T77 l0_0 a1).f1), .string ((rd_T77 l0_0 a1).f2), .string ((rd_T77 l0_0 a1).f3), .string ((rd_T77 l0_0 a1).f4), .slice A388_5 ((rd_T77 l0_0 a1).f5).length c388_5] 77 (0, 0))) := ⟨by (with_reducible repeat (first | refine blk_drewN ?_ _ | refine blk_drew ?_ | refine blk_alloc ?_ _)); refine blk_put (cs := #[.int .i64 ((rd_T77 l0_0 a1).f0), .int .i64 ((rd_T77 l0_0 a1).f1), .string ((rd_T77 l0_0 a1).f2), .string ((rd_T77 l0_0 a1).f3), .string ((rd_T77 l0_0 a1).f4), .slice none 0 0]) ?_ 5 _ rfl; (with_reducible repeat (first | refine blk_drewN ?_ _ | refine blk_drew ?_ | refine blk_alloc ?_ _)); refine blk_put (cs := #[.int .i64 ((rd_T77 l0_0 a1).f0), .int .i64 ((rd_T77 l0_0 a1).f1), .string ((rd_T77 l0_0 a1).f2), .string ((rd_T77 l0_0 a1).f3), .string (⟨#[]⟩ : ByteArray), .slice none 0 0]) ?_ 4 _ rfl; (with_reducible repeat (first | refine blk_drewN ?_ _ | refine blk_drew ?_ | refine blk_alloc ?_ _)); refine blk_put (cs := #[.int .i64 ((rd_T77 l0_0 a1).f0), .int .i64 ((rd_T77 l0_0 a1).f1), .string ((rd_T77 l0_0 a1).f2), .string (⟨#[]⟩ : ByteArray), .string (⟨#[]⟩ : ByteArray), .slice none 0 0]) ?_ 3 _ rfl; (with_reducible repeat (first | refine blk_drewN ?_ _ | refine blk_drew ?_ | refine blk_alloc ?_ _)); refine blk_put (cs := #[.int .i64 ((rd_T77 l0_0 a1).f0), .int .i64 ((rd_T77 l0_0 a1).f1), .string (⟨#[]⟩ : ByteArray), .string (⟨#[]⟩ : ByteArray), .string (⟨#[]⟩ : ByteArray), .slice none 0 0]) ?_ 2 _ rfl; (with_reducible repeat (first | refine blk_drewN ?_ _ | refine blk_drew ?_ | refine blk_alloc ?_ _)); refine blk_put (cs := #[.int .i64 ((rd_T77 l0_0 a1).f0), .int .i64 0, .string (⟨#[]⟩ : ByteArray), .string (⟨#[]⟩ : ByteArray), .string (⟨#[]⟩ : ByteArray), .slice none 0 0]) ?_ 1 _ rfl; (with_reducible repeat (first | refine blk_drewN ?_ _ | refine blk_drew ?_ | refine blk_alloc ?_ _)); refine blk_put (cs := #[.int .i64 0, .int .i64 0, .string (⟨#[]⟩ : ByteArray), .string (⟨#[]⟩ : ByteArray), .string (⟨#[]⟩ : ByteArray), .slice none 0 0]) ?_ 0 _ rfl; (with_reducible repeat (first | refine blk_drewN ?_ _ | refine blk_drew ?_ | refine blk_alloc ?_ _)); exact BK389.out⟩
         have n3_ : Aside0 (Below w.heap.size w ((((((w50.setCell ⟨gb389, 0, none⟩ (.int .i64 ((rd_T77 l0_0 a1).f0))).setCell ⟨gb389, 1, none⟩ (.int .i64 ((rd_T77 l0_0 a1).f1))).setCell ⟨gb389, 2, none⟩ (.string ((rd_T77 l0_0 a1).f2))).setCell ⟨gb389, 3, none⟩ (.string ((rd_T77 l0_0 a1).f3))).setCell ⟨gb389, 4, none⟩ (.string ((rd_T77 l0_0 a1).f4))).setCell ⟨gb389, 5, none⟩ (.slice A388_5 ((rd_T77 l0_0 a1).f5).length c388_5))) := ⟨Hf_ HB⟩
         (try clear BK386)
         (try clear BK387)
         (try clear BK389)
         (try clear HB)
         generalize ((((((w50.setCell ⟨gb389, 0, none⟩ (.int .i64 ((rd_T77 l0_0 a1).f0))).setCell ⟨gb389, 1, none⟩ (.int .i64 ((rd_T77 l0_0 a1).f1))).setCell ⟨gb389, 2, none⟩ (.string ((rd_T77 l0_0 a1).f2))).setCell ⟨gb389, 3, none⟩ (.string ((rd_T77 l0_0 a1).f3))).setCell ⟨gb389, 4, none⟩ (.string ((rd_T77 l0_0 a1).f4))).setCell ⟨gb389, 5, none⟩ (.slice A388_5 ((rd_T77 l0_0 a1).f5).length c388_5)) = w54 at n0_ n1_ n2_ n3_ ⊢
         have BK386 := n0_
         have BK387 := n1_
         have BK389 := n2_
         have HB := n3_
         clear n0_ n1_ n2_ n3_
         replace BK386 := Aside0.mk (blk_drew BK386.out); replace BK387 := Aside0.mk (blk_drew BK387.out); replace BK389 := Aside0.mk (blk_drew BK389.out); replace HB := Aside0.mk (below_drew1 HB.out)
         have p391 : 0 ≤ (0 : Int) := (by omega)
         have q391 : 0 < (((rd_T77 l0_0 a1).f5).length : Int) := of_decide_eq_true As_
         obtain ⟨ad391, e391, hx391_0⟩ := Kd.at_int HR388_5.out 0 p391 q391
         have hw391_0 := hx391_0
         (try rw [show ((0 : Int)).toNat = 0 from rfl] at hw391_0)
         (try rw [show 0 * 1 = 0 from rfl] at hw391_0)
         (try rw [Addr.add_zero'] at hw391_0)
         cases e391
         have qi391 : (0 < ((rd_T77 l0_0 a1).f5).length) = True := eq_true (by omega)
         (try rw [show ((0 : Int)).toNat = 0 from rfl] at hx391_0)
         (try rw [Addr.add_zero'] at hx391_0)
         replace hx391_0 := Bw_ hx391_0 HB
         replace p391 := eq_true p391
         replace q391 := eq_true q391
         refine start_ (n := 12) (S := fun w' => w'.cell? ⟨gb386, 0, none⟩ = some (.slice (some ad388) l0_0.length c0_0) ∧ w'.cell? ⟨gb386, 1, none⟩ = some (.slice A0_1 l0_1.length c0_1) ∧ w'.cell? ⟨gb386, 2, none⟩ = some (.slice A0_2 l0_2.length c0_2) ∧ w'.cell? ⟨gb389, 0, none⟩ = some (.int .i64 ((rd_T77 l0_0 a1).f0)) ∧ w'.cell? ⟨gb389, 1, none⟩ = some (.int .i64 ((rd_T77 l0_0 a1).f1)) ∧ w'.cell? ⟨gb389, 2, none⟩ = some (.string ((rd_T77 l0_0 a1).f2)) ∧ w'.cell? ⟨gb389, 3, none⟩ = some (.string ((rd_T77 l0_0 a1).f3)) ∧ w'.cell? ⟨gb389, 4, none⟩ = some (.string ((rd_T77 l0_0 a1).f4)) ∧ w'.cell? ⟨gb389, 5, none⟩ = some (.slice (some ad391) ((rd_T77 l0_0 a1).f5).length c388_5) ∧ w'.cell? ⟨gb387, 0, none⟩ = some (.slice A2_0 l2_0.length c2_0) ∧ w'.cell? ⟨gb387, 1, none⟩ = some (.slice A2_1 l2_1.length c2_1) ∧ w'.cell? ad391 = some (.int .i64 (rd ((rd_T77 l0_0 a1).f5) 0))) (ds := []) #[false, false, false, false, false, false, false, false, false, false, false, false] (by kernel_rfl) rfl rfl ⟨(blk_cell BK386.out 0).trans rfl, (blk_cell BK386.out 1).trans rfl, (blk_cell BK386.out 2).trans rfl, (blk_cell BK389.out 0).trans rfl, (blk_cell BK389.out 1).trans rfl, (blk_cell BK389.out 2).trans rfl, (blk_cell BK389.out 3).trans rfl, (blk_cell BK389.out 4).trans rfl, (blk_cell BK389.out 5).trans rfl, (blk_cell BK387.out 0).trans rfl, (blk_cell BK387.out 1).trans rfl, (Bw_ hw391_0 HB)⟩ (fun hHeld => ?_); refine with_tabW spec_l10Value.tab6 spec_l10Value.bits6 (fun HT_ HW_ => ?_)
         generalize w54.drew = w55 at BK386 BK387 BK389 HB hx391_0 hHeld ⊢
         refine Pu_ 1 (some 32) HT_ ?_
         refine Tk_ 0 (some 31) HT_ HW_ hHeld ?_
         refine Tk_ 2 (some 33) HT_ HW_ hHeld ?_
         refine Pu_ 3 (some 34) HT_ ?_
         refine Tk_ 4 (some 35) HT_ HW_ hHeld ?_
         refine Tk_ 5 (some 36) HT_ HW_ hHeld ?_
         refine On_ 6 (some 37) HT_ (fun K hK => ?_)
         refine Gs_ Try.func101 ((ih k (by omega) _ _ l0_0 _ _ l0_1 _ _ l0_2 (rd ((rd_T77 l0_0 a1).f5) 0) _ _ l2_0 _ _ l2_1 t392 t393 _ (Sc_ HR0_0 HB) HC0_0.out (Sc_ HR0_1 HB) HC0_1.out (Sc_ HR0_2 HB) HC0_2.out (Sc_ HR2_0 HB) HC2_0.out (Sc_ HR2_1 HB) HC2_1.out A28.out).mono ?_)
         rintro e w56 ⟨rfl, hb⟩
         refine ⟨_, rfl, ?_⟩
         replace BK386 := Bb_ BK386 hb; replace BK387 := Bb_ BK387 hb; replace BK389 := Bb_ BK389 hb; replace HB := Hs_ HB hb
         clear hb
         refine hK.out _ _ ⟨(blk_cell BK386.out 0).trans rfl, (blk_cell BK386.out 1).trans rfl, (blk_cell BK386.out 2).trans rfl, (blk_cell BK389.out 0).trans rfl, (blk_cell BK389.out 1).trans rfl, (blk_cell BK389.out 2).trans rfl, (blk_cell BK389.out 3).trans rfl, (blk_cell BK389.out 4).trans rfl, (blk_cell BK389.out 5).trans rfl, (blk_cell BK387.out 0).trans rfl, (blk_cell BK387.out 1).trans rfl, (Bw_ hw391_0 HB)⟩ (fun hHeld => ?_)
         clear hK K
         refine No_ (some 37) ?_
         refine Pu_ 7 (some 30) HT_ ?_
         refine Pu_ 8 (some 38) HT_ ?_
         refine Pu_ 9 (some 39) HT_ ?_
         refine Pu_ 10 (some 9) HT_ ?_
         refine Pu_ 11 (some 10) HT_ ?_
         refine done_ (done_of HT_.out (by kernel_rfl)) ?_
         obtain ⟨hcz57_0, hcz57_1, hcz57_2, hcz57_3, hcz57_4, hcz57_5, hfz57_0, hfz57_1, hfz57_2, hfz57_3, hfz57_4, hfz57_5⟩ := Bc6_ BK389
         try go_wp2_with (first | (refine Gl_ (some 52) Try.func137 ((spec_Negated.calls t392 t395 t396 _ A45.out).mono ?_); rintro e w' ⟨rfl, ⟨nd, rfl⟩⟩; refine ⟨_, rfl, ?_⟩))
         go_ret2
         exact ⟨Re_, Hf_ HB⟩
        ·rw [if_neg c44] at H
         have c44b0 := beq_eq_false_iff_ne.mpr c44
         have c44b1 := bne_iff_ne.mpr c44
         by_cases c58 : 1 < (((rd_T77 l0_0 a1).f5).length : Int)
         ·rw [if_pos c58] at H
          have c58b0 := decide_eq_true c58
          have c58b1 : decide (1 < ((rd_T77 l0_0 a1).f5).length) = true := decide_eq_true (by omega)
          clear c58
          obtain ⟨⟨t398, t399⟩, A59, H⟩ := Bo_ H
          try dsimp only at H
          by_cases c60 : t399 = 0
          ·rw [if_pos c60] at H
           have c60b0 := beq_iff_eq.mpr c60
           have c60b1 := bne_eq_false_iff_eq.mpr c60
           clear c60
           obtain ⟨⟨t400, t401⟩, A61, H⟩ := Bo_ H
           try dsimp only at H
           simp only [Option.some.injEq, Prod.mk.injEq] at H
           obtain ⟨rfl, rfl⟩ := H
           go_enter Try.func101, Try.ntmps101
           try go_wp2_with (first | (refine Bv_ 3 #[.slice A0_0 l0_0.length c0_0, .slice A0_1 l0_1.length c0_1, .slice A0_2 l0_2.length c0_2] 40 ?_; intro gb386 hg w62 BK386 hb; have GW386 := Hg_ HB hg; replace HB := Hs_ HB hb; clear hb hg) | (refine Bv_ 5 #[.slice A2_0 l2_0.length c2_0, .slice A2_1 l2_1.length c2_1] 42 ?_; intro gb387 hg w63 BK387 hb; have GW387 := Hg_ HB hg; have NB386_387 := Bl_ BK386 hg; have NB387_386 := Bm_ NB386_387; replace BK386 := Bb_ BK386 hb; replace HB := Hs_ HB hb; clear hb hg; have hnb64 := NB386_387.out; have hnc64 := NB387_386.out; obtain ⟨hcz65_0, hcz65_1, hcz65_2, hfz65_0, hfz65_1, hfz65_2⟩ := Bc3_ BK386; have p388 : 0 ≤ (a1 : Int) := of_decide_eq_true As_; have q388 : a1 < (l0_0.length : Int) := of_decide_eq_true As_; obtain ⟨ad388, A388_5, c388_5, e388, hx388_0, hx388_1, hx388_2, hx388_3, hx388_4, hx388_5, hl388_5, hi388_5⟩ := at_T77 HR0_0.out a1 p388 q388; cases e388; replace hx388_0 := Bw_ hx388_0 HB; replace hx388_1 := Bw_ hx388_1 HB; replace hx388_2 := Bw_ hx388_2 HB; replace hx388_3 := Bw_ hx388_3 HB; replace hx388_4 := Bw_ hx388_4 HB; replace hx388_5 := Bw_ hx388_5 HB; have HR388_5 := Aside0.mk hi388_5; have HC388_5 := Aside0.mk hl388_5; clear hi388_5 hl388_5; replace p388 := eq_true p388; replace q388 := eq_true q388) | (refine Bv_ 8 #[.int .i64 0, .int .i64 0, .string (⟨#[]⟩ : ByteArray), .string (⟨#[]⟩ : ByteArray), .string (⟨#[]⟩ : ByteArray), .slice none 0 0] 77 ?_; intro gb389 hg w66 BK389 hb; have GW389 := Hg_ HB hg; have NB386_389 := Bl_ BK386 hg; have NB389_386 := Bm_ NB386_389; have NB387_389 := Bl_ BK387 hg; have NB389_387 := Bm_ NB387_389; replace BK386 := Bb_ BK386 hb; replace BK387 := Bb_ BK387 hb; replace HB := Hs_ HB hb; clear hb hg; have hnb67 := NB389_386.out; have hnc67 := NB386_389.out; have hnb68 := NB389_387.out; have hnc68 := NB387_389.out; obtain ⟨hcz69_0, hcz69_1, hcz69_2, hcz69_3, hcz69_4, hcz69_5, hfz69_0, hfz69_1, hfz69_2, hfz69_3, hfz69_4, hfz69_5⟩ := Bc6_ BK389))
           have n0_ : Aside0 (((((((w66.setCell ⟨gb389, 0, none⟩ (.int .i64 ((rd_T77 l0_0 a1).f0))).setCell ⟨gb389, 1, none⟩ (.int .i64 ((rd_T77 l0_0 a1).f1))).setCell ⟨gb389, 2, none⟩ (.string ((rd_T77 l0_0 a1).f2))).setCell ⟨gb389, 3, none⟩ (.string ((rd_T77 l0_0 a1).f3))).setCell ⟨gb389, 4, none⟩ (.string ((rd_T77 l0_0 a1).f4))).setCell ⟨gb389, 5, none⟩ (.slice A388_5 ((rd_T77 l0_0 a1).f5).length c388_5)).heap[gb386]? = some (.cells #[.slice (some ad388) l0_0.length c0_0, .slice A0_1 l0_1.length c0_1, .slice A0_2 l0_2.length c0_2] 40 (0, 0))) := ⟨by (with_reducible repeat (first | refine blk_drewN ?_ _ | refine blk_drew ?_ | refine blk_alloc ?_ _)); refine blk_far ?_ NB386_389.out _; (with_reducible repeat (first | refine blk_drewN ?_ _ | refine blk_drew ?_ | refine blk_alloc ?_ _)); refine blk_far ?_ NB386_389.out _; (with_reducible repeat (first | refine blk_drewN ?_ _ | refine blk_drew ?_ | refine blk_alloc ?_ _)); refine blk_far ?_ NB386_389.out _; (with_reducible repeat (first | refine blk_drewN ?_ _ | refine blk_drew ?_ | refine blk_alloc ?_ _)); refine blk_far ?_ NB386_389.out _; (with_reducible repeat (first | refine blk_drewN ?_ _ | refine blk_drew ?_ | refine blk_alloc ?_ _)); refine blk_far ?_ NB386_389.out _; (with_reducible repeat (first | refine blk_drewN ?_ _ | refine blk_drew ?_ | refine blk_alloc ?_ _)); refine blk_far ?_ NB386_389.out _; (with_reducible repeat (first | refine blk_drewN ?_ _ | refine blk_drew ?_ | refine blk_alloc ?_ _)); exact BK386.out⟩
           have n1_ : Aside0 (((((((w66.setCell ⟨gb389, 0, none⟩ (.int .i64 ((rd_T77 l0_0 a1).f0))).setCell ⟨gb389, 1, none⟩ (.int .i64 ((rd_T77 l0_0 a1).f1))).setCell ⟨gb389, 2, none⟩ (.string ((rd_T77 l0_0 a1).f2))).setCell ⟨gb389, 3, none⟩ (.string ((rd_T77 l0_0 a1).f3))).setCell ⟨gb389, 4, none⟩ (.string ((rd_T77 l0_0 a1).f4))).setCell ⟨gb389, 5, none⟩ (.slice A388_5 ((rd_T77 l0_0 a1).f5).length c388_5)).heap[gb387]? = some (.cells #[.slice A2_0 l2_0.length c2_0, .slice A2_1 l2_1.length c2_1] 42 (0, 0))) := ⟨by (with_reducible repeat (first | refine blk_drewN ?_ _ | refine blk_drew ?_ | refine blk_alloc ?_ _)); refine blk_far ?_ NB387_389.out _; (with_reducible repeat (first | refine blk_drewN ?_ _ | refine blk_drew ?_ | refine blk_alloc ?_ _)); refine blk_far ?_ NB387_389.out _; (with_reducible repeat (first | refine blk_drewN ?_ _ | refine blk_drew ?_ | refine blk_alloc ?_ _)); refine blk_far ?_ NB387_389.out _; (with_reducible repeat (first | refine blk_drewN ?_ _ | refine blk_drew ?_ | refine blk_alloc ?_ _)); refine blk_far ?_ NB387_389.out _; (with_reducible repeat (first | refine blk_drewN ?_ _ | refine blk_drew ?_ | refine blk_alloc ?_ _)); refine blk_far ?_ NB387_389.out _; (with_reducible repeat (first | refine blk_drewN ?_ _ | refine blk_drew ?_ | refine blk_alloc ?_ _)); refine blk_far ?_ NB387_389.out _; (with_reducible repeat (first | refine blk_drewN ?_ _ | refine blk_drew ?_ | refine blk_alloc ?_ _)); exact BK387.out⟩
           have n2_ : Aside0 (((((((w66.setCell ⟨gb389, 0, none⟩ (.int .i64 ((rd_T77 l0_0 a1).f0))).setCell ⟨gb389, 1, none⟩ (.int .i64 ((rd_T77 l0_0 a1).f1))).setCell ⟨gb389, 2, none⟩ (.string ((rd_T77 l0_0 a1).f2))).setCell ⟨gb389, 3, none⟩ (.string ((rd_T77 l0_0 a1).f3))).setCell ⟨gb389, 4, none⟩ (.string ((rd_T77 l0_0 a1).f4))).setCell ⟨gb389, 5, none⟩ (.slice A388_5 ((rd_T77 l0_0 a1).f5).length c388_5)).heap[gb389]? = some (.cells #[.int .i64 ((rd_T77 l0_0 a1).f0), .int .i64 ((rd_T77 l0_0 a1).f1), .string ((rd_T77 l0_0 a1).f2), .string ((rd_T77 l0_0 a1).f3), .string ((rd_T77 l0_0 a1).f4), .slice A388_5 ((rd_T77 l0_0 a1).f5).length c388_5] 77 (0, 0))) := ⟨by (with_reducible repeat (first | refine blk_drewN ?_ _ | refine blk_drew ?_ | refine blk_alloc ?_ _)); refine blk_put (cs := #[.int .i64 ((rd_T77 l0_0 a1).f0), .int .i64 ((rd_T77 l0_0 a1).f1), .string ((rd_T77 l0_0 a1).f2), .string ((rd_T77 l0_0 a1).f3), .string ((rd_T77 l0_0 a1).f4), .slice none 0 0]) ?_ 5 _ rfl; (with_reducible repeat (first | refine blk_drewN ?_ _ | refine blk_drew ?_ | refine blk_alloc ?_ _)); refine blk_put (cs := #[.int .i64 ((rd_T77 l0_0 a1).f0), .int .i64 ((rd_T77 l0_0 a1).f1), .string ((rd_T77 l0_0 a1).f2), .string ((rd_T77 l0_0 a1).f3), .string (⟨#[]⟩ : ByteArray), .slice none 0 0]) ?_ 4 _ rfl; (with_reducible repeat (first | refine blk_drewN ?_ _ | refine blk_drew ?_ | refine blk_alloc ?_ _)); refine blk_put (cs := #[.int .i64 ((rd_T77 l0_0 a1).f0), .int .i64 ((rd_T77 l0_0 a1).f1), .string ((rd_T77 l0_0 a1).f2), .string (⟨#[]⟩ : ByteArray), .string (⟨#[]⟩ : ByteArray), .slice none 0 0]) ?_ 3 _ rfl; (with_reducible repeat (first | refine blk_drewN ?_ _ | refine blk_drew ?_ | refine blk_alloc ?_ _)); refine blk_put (cs := #[.int .i64 ((rd_T77 l0_0 a1).f0), .int .i64 ((rd_T77 l0_0 a1).f1), .string (⟨#[]⟩ : ByteArray), .string (⟨#[]⟩ : ByteArray), .string (⟨#[]⟩ : ByteArray), .slice none 0 0]) ?_ 2 _ rfl; (with_reducible repeat (first | refine blk_drewN ?_ _ | refine blk_drew ?_ | refine blk_alloc ?_ _)); refine blk_put (cs := #[.int .i64 ((rd_T77 l0_0 a1).f0), .int .i64 0, .string (⟨#[]⟩ : ByteArray), .string (⟨#[]⟩ : ByteArray), .string (⟨#[]⟩ : ByteArray), .slice none 0 0]) ?_ 1 _ rfl; (with_reducible repeat (first | refine blk_drewN ?_ _ | refine blk_drew ?_ | refine blk_alloc ?_ _)); refine blk_put (cs := #[.int .i64 0, .int .i64 0, .string (⟨#[]⟩ : ByteArray), .string (⟨#[]⟩ : ByteArray), .string (⟨#[]⟩ : ByteArray), .slice none 0 0]) ?_ 0 _ rfl; (with_reducible repeat (first | refine blk_drewN ?_ _ | refine blk_drew ?_ | refine blk_alloc ?_ _)); exact BK389.out⟩
           have n3_ : Aside0 (Below w.heap.size w ((((((w66.setCell ⟨gb389, 0, none⟩ (.int .i64 ((rd_T77 l0_0 a1).f0))).setCell ⟨gb389, 1, none⟩ (.int .i64 ((rd_T77 l0_0 a1).f1))).setCell ⟨gb389, 2, none⟩ (.string ((rd_T77 l0_0 a1).f2))).setCell ⟨gb389, 3, none⟩ (.string ((rd_T77 l0_0 a1).f3))).setCell ⟨gb389, 4, none⟩ (.string ((rd_T77 l0_0 a1).f4))).setCell ⟨gb389, 5, none⟩ (.slice A388_5 ((rd_T77 l0_0 a1).f5).length c388_5))) := ⟨Hf_ HB⟩
           (try clear BK386)
           (try clear BK387)
           (try clear BK389)
           (try clear HB)
           generalize ((((((w66.setCell ⟨gb389, 0, none⟩ (.int .i64 ((rd_T77 l0_0 a1).f0))).setCell ⟨gb389, 1, none⟩ (.int .i64 ((rd_T77 l0_0 a1).f1))).setCell ⟨gb389, 2, none⟩ (.string ((rd_T77 l0_0 a1).f2))).setCell ⟨gb389, 3, none⟩ (.string ((rd_T77 l0_0 a1).f3))).setCell ⟨gb389, 4, none⟩ (.string ((rd_T77 l0_0 a1).f4))).setCell ⟨gb389, 5, none⟩ (.slice A388_5 ((rd_T77 l0_0 a1).f5).length c388_5)) = w70 at n0_ n1_ n2_ n3_ ⊢
           have BK386 := n0_
           have BK387 := n1_
           have BK389 := n2_
           have HB := n3_
           clear n0_ n1_ n2_ n3_
           replace BK386 := Aside0.mk (blk_drew BK386.out); replace BK387 := Aside0.mk (blk_drew BK387.out); replace BK389 := Aside0.mk (blk_drew BK389.out); replace HB := Aside0.mk (below_drew1 HB.out)
           have p391 : 0 ≤ (0 : Int) := (by omega)
           have q391 : 0 < (((rd_T77 l0_0 a1).f5).length : Int) := of_decide_eq_true As_
           obtain ⟨ad391, e391, hx391_0⟩ := Kd.at_int HR388_5.out 0 p391 q391
           have hw391_0 := hx391_0
           (try rw [show ((0 : Int)).toNat = 0 from rfl] at hw391_0)
           (try rw [show 0 * 1 = 0 from rfl] at hw391_0)
           (try rw [Addr.add_zero'] at hw391_0)
           cases e391
           have qi391 : (0 < ((rd_T77 l0_0 a1).f5).length) = True := eq_true (by omega)
           (try rw [show ((0 : Int)).toNat = 0 from rfl] at hx391_0)
           (try rw [Addr.add_zero'] at hx391_0)
           replace hx391_0 := Bw_ hx391_0 HB
           replace p391 := eq_true p391
           replace q391 := eq_true q391
           refine start_ (n := 12) (S := fun w' => w'.cell? ⟨gb386, 0, none⟩ = some (.slice (some ad388) l0_0.length c0_0) ∧ w'.cell? ⟨gb386, 1, none⟩ = some (.slice A0_1 l0_1.length c0_1) ∧ w'.cell? ⟨gb386, 2, none⟩ = some (.slice A0_2 l0_2.length c0_2) ∧ w'.cell? ⟨gb389, 0, none⟩ = some (.int .i64 ((rd_T77 l0_0 a1).f0)) ∧ w'.cell? ⟨gb389, 1, none⟩ = some (.int .i64 ((rd_T77 l0_0 a1).f1)) ∧ w'.cell? ⟨gb389, 2, none⟩ = some (.string ((rd_T77 l0_0 a1).f2)) ∧ w'.cell? ⟨gb389, 3, none⟩ = some (.string ((rd_T77 l0_0 a1).f3)) ∧ w'.cell? ⟨gb389, 4, none⟩ = some (.string ((rd_T77 l0_0 a1).f4)) ∧ w'.cell? ⟨gb389, 5, none⟩ = some (.slice (some ad391) ((rd_T77 l0_0 a1).f5).length c388_5) ∧ w'.cell? ⟨gb387, 0, none⟩ = some (.slice A2_0 l2_0.length c2_0) ∧ w'.cell? ⟨gb387, 1, none⟩ = some (.slice A2_1 l2_1.length c2_1) ∧ w'.cell? ad391 = some (.int .i64 (rd ((rd_T77 l0_0 a1).f5) 0))) (ds := []) #[false, false, false, false, false, false, false, false, false, false, false, false] (by kernel_rfl) rfl rfl ⟨(blk_cell BK386.out 0).trans rfl, (blk_cell BK386.out 1).trans rfl, (blk_cell BK386.out 2).trans rfl, (blk_cell BK389.out 0).trans rfl, (blk_cell BK389.out 1).trans rfl, (blk_cell BK389.out 2).trans rfl, (blk_cell BK389.out 3).trans rfl, (blk_cell BK389.out 4).trans rfl, (blk_cell BK389.out 5).trans rfl, (blk_cell BK387.out 0).trans rfl, (blk_cell BK387.out 1).trans rfl, (Bw_ hw391_0 HB)⟩ (fun hHeld => ?_); refine with_tabW spec_l10Value.tab6 spec_l10Value.bits6 (fun HT_ HW_ => ?_)
           generalize w70.drew = w71 at BK386 BK387 BK389 HB hx391_0 hHeld ⊢
           refine Pu_ 1 (some 32) HT_ ?_
           refine Tk_ 0 (some 31) HT_ HW_ hHeld ?_
           refine Tk_ 2 (some 33) HT_ HW_ hHeld ?_
           refine Pu_ 3 (some 34) HT_ ?_
           refine Tk_ 4 (some 35) HT_ HW_ hHeld ?_
           refine Tk_ 5 (some 36) HT_ HW_ hHeld ?_
           refine On_ 6 (some 37) HT_ (fun K hK => ?_)
           refine Gs_ Try.func101 ((ih k (by omega) _ _ l0_0 _ _ l0_1 _ _ l0_2 (rd ((rd_T77 l0_0 a1).f5) 0) _ _ l2_0 _ _ l2_1 t392 t393 _ (Sc_ HR0_0 HB) HC0_0.out (Sc_ HR0_1 HB) HC0_1.out (Sc_ HR0_2 HB) HC0_2.out (Sc_ HR2_0 HB) HC2_0.out (Sc_ HR2_1 HB) HC2_1.out A28.out).mono ?_)
           rintro e w72 ⟨rfl, hb⟩
           refine ⟨_, rfl, ?_⟩
           replace BK386 := Bb_ BK386 hb; replace BK387 := Bb_ BK387 hb; replace BK389 := Bb_ BK389 hb; replace HB := Hs_ HB hb
           clear hb
           refine hK.out _ _ ⟨(blk_cell BK386.out 0).trans rfl, (blk_cell BK386.out 1).trans rfl, (blk_cell BK386.out 2).trans rfl, (blk_cell BK389.out 0).trans rfl, (blk_cell BK389.out 1).trans rfl, (blk_cell BK389.out 2).trans rfl, (blk_cell BK389.out 3).trans rfl, (blk_cell BK389.out 4).trans rfl, (blk_cell BK389.out 5).trans rfl, (blk_cell BK387.out 0).trans rfl, (blk_cell BK387.out 1).trans rfl, (Bw_ hw391_0 HB)⟩ (fun hHeld => ?_)
           clear hK K
           refine No_ (some 37) ?_
           refine Pu_ 7 (some 30) HT_ ?_
           refine Pu_ 8 (some 38) HT_ ?_
           refine Pu_ 9 (some 39) HT_ ?_
           refine Pu_ 10 (some 9) HT_ ?_
           refine Pu_ 11 (some 10) HT_ ?_
           refine done_ (done_of HT_.out (by kernel_rfl)) ?_
           obtain ⟨hcz73_0, hcz73_1, hcz73_2, hcz73_3, hcz73_4, hcz73_5, hfz73_0, hfz73_1, hfz73_2, hfz73_3, hfz73_4, hfz73_5⟩ := Bc6_ BK389
           try go_wp2
           replace BK386 := Aside0.mk (blk_drew BK386.out); replace BK387 := Aside0.mk (blk_drew BK387.out); replace BK389 := Aside0.mk (blk_drew BK389.out); replace HB := Aside0.mk (below_drew1 HB.out)
           have p397 : 0 ≤ (1 : Int) := (by omega)
           have q397 : 1 < (((rd_T77 l0_0 a1).f5).length : Int) := of_decide_eq_true As_
           obtain ⟨ad397, e397, hx397_0⟩ := Kd.at_int HR388_5.out 1 p397 q397
           have hw397_0 := hx397_0
           (try rw [show ((1 : Int)).toNat = 1 from rfl] at hw397_0)
           (try rw [show 1 * 1 = 1 from rfl] at hw397_0)
           (try simp only [Nat.reduceMul, Nat.reduceEqDiff, Go.Addr.add, ↓reduceIte] at hw397_0)
           obtain rfl : ad391 = ad397 := (by injection e397)
           (try simp only [show (1 : Int).toNat = 1 from rfl, Nat.reduceMul, Nat.reduceEqDiff, Go.Addr.add, ↓reduceIte] at hx397_0)
           have qi397 : (1 < ((rd_T77 l0_0 a1).f5).length) = True := eq_true (by omega)
           (try rw [show ((1 : Int)).toNat = 1 from rfl] at hx397_0)
           replace hx397_0 := Bw_ hx397_0 HB
           replace p397 := eq_true p397
           replace q397 := eq_true q397
           refine start_ (n := 12) (S := fun w' => w'.cell? ⟨gb386, 0, none⟩ = some (.slice (some ad388) l0_0.length c0_0) ∧ w'.cell? ⟨gb386, 1, none⟩ = some (.slice A0_1 l0_1.length c0_1) ∧ w'.cell? ⟨gb386, 2, none⟩ = some (.slice A0_2 l0_2.length c0_2) ∧ w'.cell? ⟨gb389, 0, none⟩ = some (.int .i64 ((rd_T77 l0_0 a1).f0)) ∧ w'.cell? ⟨gb389, 1, none⟩ = some (.int .i64 ((rd_T77 l0_0 a1).f1)) ∧ w'.cell? ⟨gb389, 2, none⟩ = some (.string ((rd_T77 l0_0 a1).f2)) ∧ w'.cell? ⟨gb389, 3, none⟩ = some (.string ((rd_T77 l0_0 a1).f3)) ∧ w'.cell? ⟨gb389, 4, none⟩ = some (.string ((rd_T77 l0_0 a1).f4)) ∧ w'.cell? ⟨gb389, 5, none⟩ = some (.slice (some ad391) ((rd_T77 l0_0 a1).f5).length c388_5) ∧ w'.cell? ⟨gb387, 0, none⟩ = some (.slice A2_0 l2_0.length c2_0) ∧ w'.cell? ⟨gb387, 1, none⟩ = some (.slice A2_1 l2_1.length c2_1) ∧ w'.cell? ⟨ad391.block, ad391.off + 1, none⟩ = some (.int .i64 (rd ((rd_T77 l0_0 a1).f5) 1))) (ds := []) #[false, false, false, false, false, false, false, false, false, false, false, false] (by kernel_rfl) rfl rfl ⟨(blk_cell BK386.out 0).trans rfl, (blk_cell BK386.out 1).trans rfl, (blk_cell BK386.out 2).trans rfl, (blk_cell BK389.out 0).trans rfl, (blk_cell BK389.out 1).trans rfl, (blk_cell BK389.out 2).trans rfl, (blk_cell BK389.out 3).trans rfl, (blk_cell BK389.out 4).trans rfl, (blk_cell BK389.out 5).trans rfl, (blk_cell BK387.out 0).trans rfl, (blk_cell BK387.out 1).trans rfl, (Bw_ hw397_0 HB)⟩ (fun hHeld => ?_); refine with_tabW spec_l10Value.tab14 spec_l10Value.bits14 (fun HT_ HW_ => ?_)
           generalize w72.drew = w74 at BK386 BK387 BK389 HB hx397_0 hHeld ⊢
           refine Pu_ 1 (some 57) HT_ ?_
           refine Tk_ 0 (some 56) HT_ HW_ hHeld ?_
           refine Tk_ 2 (some 58) HT_ HW_ hHeld ?_
           refine Pu_ 3 (some 59) HT_ ?_
           refine Tk_ 4 (some 60) HT_ HW_ hHeld ?_
           refine Tk_ 5 (some 61) HT_ HW_ hHeld ?_
           refine On_ 6 (some 62) HT_ (fun K hK => ?_)
           refine Gs_ Try.func101 ((ih k (by omega) _ _ l0_0 _ _ l0_1 _ _ l0_2 (rd ((rd_T77 l0_0 a1).f5) 1) _ _ l2_0 _ _ l2_1 t398 t399 _ (Sc_ HR0_0 HB) HC0_0.out (Sc_ HR0_1 HB) HC0_1.out (Sc_ HR0_2 HB) HC0_2.out (Sc_ HR2_0 HB) HC2_0.out (Sc_ HR2_1 HB) HC2_1.out A59.out).mono ?_)
           rintro e w75 ⟨rfl, hb⟩
           refine ⟨_, rfl, ?_⟩
           replace BK386 := Bb_ BK386 hb; replace BK387 := Bb_ BK387 hb; replace BK389 := Bb_ BK389 hb; replace HB := Hs_ HB hb
           clear hb
           refine hK.out _ _ ⟨(blk_cell BK386.out 0).trans rfl, (blk_cell BK386.out 1).trans rfl, (blk_cell BK386.out 2).trans rfl, (blk_cell BK389.out 0).trans rfl, (blk_cell BK389.out 1).trans rfl, (blk_cell BK389.out 2).trans rfl, (blk_cell BK389.out 3).trans rfl, (blk_cell BK389.out 4).trans rfl, (blk_cell BK389.out 5).trans rfl, (blk_cell BK387.out 0).trans rfl, (blk_cell BK387.out 1).trans rfl, (Bw_ hw397_0 HB)⟩ (fun hHeld => ?_)
           clear hK K
           refine No_ (some 62) ?_
           refine Pu_ 7 (some 55) HT_ ?_
           refine Pu_ 8 (some 63) HT_ ?_
           refine Pu_ 9 (some 64) HT_ ?_
           refine Pu_ 10 (some 11) HT_ ?_
           refine Pu_ 11 (some 12) HT_ ?_
           refine done_ (done_of HT_.out (by kernel_rfl)) ?_
           obtain ⟨hcz76_0, hcz76_1, hcz76_2, hcz76_3, hcz76_4, hcz76_5, hfz76_0, hfz76_1, hfz76_2, hfz76_3, hfz76_4, hfz76_5⟩ := Bc6_ BK389
           try go_wp2_with (first | (refine Gl_ (some 72) Try.func138 ((spec_Calc.calls k ((rd_T77 l0_0 a1).f1) t392 t398 t400 t401 _ A61.out).mono ?_); rintro e w' ⟨rfl, ⟨nd, rfl⟩⟩; refine ⟨_, rfl, ?_⟩))
           go_ret2
           exact ⟨Re_, Hf_ HB⟩
          ·rw [if_neg c60] at H
           have c60b0 := beq_eq_false_iff_ne.mpr c60
           have c60b1 := bne_iff_ne.mpr c60
           simp only [Option.some.injEq, Prod.mk.injEq] at H
           obtain ⟨rfl, rfl⟩ := H
           go_enter Try.func101, Try.ntmps101
           try go_wp2_with (first | (refine Bv_ 3 #[.slice A0_0 l0_0.length c0_0, .slice A0_1 l0_1.length c0_1, .slice A0_2 l0_2.length c0_2] 40 ?_; intro gb386 hg w77 BK386 hb; have GW386 := Hg_ HB hg; replace HB := Hs_ HB hb; clear hb hg) | (refine Bv_ 5 #[.slice A2_0 l2_0.length c2_0, .slice A2_1 l2_1.length c2_1] 42 ?_; intro gb387 hg w78 BK387 hb; have GW387 := Hg_ HB hg; have NB386_387 := Bl_ BK386 hg; have NB387_386 := Bm_ NB386_387; replace BK386 := Bb_ BK386 hb; replace HB := Hs_ HB hb; clear hb hg; have hnb79 := NB386_387.out; have hnc79 := NB387_386.out; obtain ⟨hcz80_0, hcz80_1, hcz80_2, hfz80_0, hfz80_1, hfz80_2⟩ := Bc3_ BK386; have p388 : 0 ≤ (a1 : Int) := of_decide_eq_true As_; have q388 : a1 < (l0_0.length : Int) := of_decide_eq_true As_; obtain ⟨ad388, A388_5, c388_5, e388, hx388_0, hx388_1, hx388_2, hx388_3, hx388_4, hx388_5, hl388_5, hi388_5⟩ := at_T77 HR0_0.out a1 p388 q388; cases e388; replace hx388_0 := Bw_ hx388_0 HB; replace hx388_1 := Bw_ hx388_1 HB; replace hx388_2 := Bw_ hx388_2 HB; replace hx388_3 := Bw_ hx388_3 HB; replace hx388_4 := Bw_ hx388_4 HB; replace hx388_5 := Bw_ hx388_5 HB; have HR388_5 := Aside0.mk hi388_5; have HC388_5 := Aside0.mk hl388_5; clear hi388_5 hl388_5; replace p388 := eq_true p388; replace q388 := eq_true q388) | (refine Bv_ 8 #[.int .i64 0, .int .i64 0, .string (⟨#[]⟩ : ByteArray), .string (⟨#[]⟩ : ByteArray), .string (⟨#[]⟩ : ByteArray), .slice none 0 0] 77 ?_; intro gb389 hg w81 BK389 hb; have GW389 := Hg_ HB hg; have NB386_389 := Bl_ BK386 hg; have NB389_386 := Bm_ NB386_389; have NB387_389 := Bl_ BK387 hg; have NB389_387 := Bm_ NB387_389; replace BK386 := Bb_ BK386 hb; replace BK387 := Bb_ BK387 hb; replace HB := Hs_ HB hb; clear hb hg; have hnb82 := NB389_386.out; have hnc82 := NB386_389.out; have hnb83 := NB389_387.out; have hnc83 := NB387_389.out; obtain ⟨hcz84_0, hcz84_1, hcz84_2, hcz84_3, hcz84_4, hcz84_5, hfz84_0, hfz84_1, hfz84_2, hfz84_3, hfz84_4, hfz84_5⟩ := Bc6_ BK389))
           have n0_ : Aside0 (((((((w81.setCell ⟨gb389, 0, none⟩ (.int .i64 ((rd_T77 l0_0 a1).f0))).setCell ⟨gb389, 1, none⟩ (.int .i64 ((rd_T77 l0_0 a1).f1))).setCell ⟨gb389, 2, none⟩ (.string ((rd_T77 l0_0 a1).f2))).setCell ⟨gb389, 3, none⟩ (.string ((rd_T77 l0_0 a1).f3))).setCell ⟨gb389, 4, none⟩ (.string ((rd_T77 l0_0 a1).f4))).setCell ⟨gb389, 5, none⟩ (.slice A388_5 ((rd_T77 l0_0 a1).f5).length c388_5)).heap[gb386]? = some (.cells #[.slice (some ad388) l0_0.length c0_0, .slice A0_1 l0_1.length c0_1, .slice A0_2 l0_2.length c0_2] 40 (0, 0))) := ⟨by (with_reducible repeat (first | refine blk_drewN ?_ _ | refine blk_drew ?_ | refine blk_alloc ?_ _)); refine blk_far ?_ NB386_389.out _; (with_reducible repeat (first | refine blk_drewN ?_ _ | refine blk_drew ?_ | refine blk_alloc ?_ _)); refine blk_far ?_ NB386_389.out _; (with_reducible repeat (first | refine blk_drewN ?_ _ | refine blk_drew ?_ | refine blk_alloc ?_ _)); refine blk_far ?_ NB386_389.out _; (with_reducible repeat (first | refine blk_drewN ?_ _ | refine blk_drew ?_ | refine blk_alloc ?_ _)); refine blk_far ?_ NB386_389.out _; (with_reducible repeat (first | refine blk_drewN ?_ _ | refine blk_drew ?_ | refine blk_alloc ?_ _)); refine blk_far ?_ NB386_389.out _; (with_reducible repeat (first | refine blk_drewN ?_ _ | refine blk_drew ?_ | refine blk_alloc ?_ _)); refine blk_far ?_ NB386_389.out _; (with_reducible repeat (first | refine blk_drewN ?_ _ | refine blk_drew ?_ | refine blk_alloc ?_ _)); exact BK386.out⟩
           have n1_ : Aside0 (((((((w81.setCell ⟨gb389, 0, none⟩ (.int .i64 ((rd_T77 l0_0 a1).f0))).setCell ⟨gb389, 1, none⟩ (.int .i64 ((rd_T77 l0_0 a1).f1))).setCell ⟨gb389, 2, none⟩ (.string ((rd_T77 l0_0 a1).f2))).setCell ⟨gb389, 3, none⟩ (.string ((rd_T77 l0_0 a1).f3))).setCell ⟨gb389, 4, none⟩ (.string ((rd_T77 l0_0 a1).f4))).setCell ⟨gb389, 5, none⟩ (.slice A388_5 ((rd_T77 l0_0 a1).f5).length c388_5)).heap[gb387]? = some (.cells #[.slice A2_0 l2_0.length c2_0, .slice A2_1 l2_1.length c2_1] 42 (0, 0))) := ⟨by (with_reducible repeat (first | refine blk_drewN ?_ _ | refine blk_drew ?_ | refine blk_alloc ?_ _)); refine blk_far ?_ NB387_389.out _; (with_reducible repeat (first | refine blk_drewN ?_ _ | refine blk_drew ?_ | refine blk_alloc ?_ _)); refine blk_far ?_ NB387_389.out _; (with_reducible repeat (first | refine blk_drewN ?_ _ | refine blk_drew ?_ | refine blk_alloc ?_ _)); refine blk_far ?_ NB387_389.out _; (with_reducible repeat (first | refine blk_drewN ?_ _ | refine blk_drew ?_ | refine blk_alloc ?_ _)); refine blk_far ?_ NB387_389.out _; (with_reducible repeat (first | refine blk_drewN ?_ _ | refine blk_drew ?_ | refine blk_alloc ?_ _)); refine blk_far ?_ NB387_389.out _; (with_reducible repeat (first | refine blk_drewN ?_ _ | refine blk_drew ?_ | refine blk_alloc ?_ _)); refine blk_far ?_ NB387_389.out _; (with_reducible repeat (first | refine blk_drewN ?_ _ | refine blk_drew ?_ | refine blk_alloc ?_ _)); exact BK387.out⟩
           have n2_ : Aside0 (((((((w81.setCell ⟨gb389, 0, none⟩ (.int .i64 ((rd_T77 l0_0 a1).f0))).setCell ⟨gb389, 1, none⟩ (.int .i64 ((rd_T77 l0_0 a1).f1))).setCell ⟨gb389, 2, none⟩ (.string ((rd_T77 l0_0 a1).f2))).setCell ⟨gb389, 3, none⟩ (.string ((rd_T77 l0_0 a1).f3))).setCell ⟨gb389, 4, none⟩ (.string ((rd_T77 l0_0 a1).f4))).setCell ⟨gb389, 5, none⟩ (.slice A388_5 ((rd_T77 l0_0 a1).f5).length c388_5)).heap[gb389]? = some (.cells #[.int .i64 ((rd_T77 l0_0 a1).f0), .int .i64 ((rd_T77 l0_0 a1).f1), .string ((rd_T77 l0_0 a1).f2), .string ((rd_T77 l0_0 a1).f3), .string ((rd_T77 l0_0 a1).f4), .slice A388_5 ((rd_T77 l0_0 a1).f5).length c388_5] 77 (0, 0))) := ⟨by (with_reducible repeat (first | refine blk_drewN ?_ _ | refine blk_drew ?_ | refine blk_alloc ?_ _)); refine blk_put (cs := #[.int .i64 ((rd_T77 l0_0 a1).f0), .int .i64 ((rd_T77 l0_0 a1).f1), .string ((rd_T77 l0_0 a1).f2), .string ((rd_T77 l0_0 a1).f3), .string ((rd_T77 l0_0 a1).f4), .slice none 0 0]) ?_ 5 _ rfl; (with_reducible repeat (first | refine blk_drewN ?_ _ | refine blk_drew ?_ | refine blk_alloc ?_ _)); refine blk_put (cs := #[.int .i64 ((rd_T77 l0_0 a1).f0), .int .i64 ((rd_T77 l0_0 a1).f1), .string ((rd_T77 l0_0 a1).f2), .string ((rd_T77 l0_0 a1).f3), .string (⟨#[]⟩ : ByteArray), .slice none 0 0]) ?_ 4 _ rfl; (with_reducible repeat (first | refine blk_drewN ?_ _ | refine blk_drew ?_ | refine blk_alloc ?_ _)); refine blk_put (cs := #[.int .i64 ((rd_T77 l0_0 a1).f0), .int .i64 ((rd_T77 l0_0 a1).f1), .string ((rd_T77 l0_0 a1).f2), .string (⟨#[]⟩ : ByteArray), .string (⟨#[]⟩ : ByteArray), .slice none 0 0]) ?_ 3 _ rfl; (with_reducible repeat (first | refine blk_drewN ?_ _ | refine blk_drew ?_ | refine blk_alloc ?_ _)); refine blk_put (cs := #[.int .i64 ((rd_T77 l0_0 a1).f0), .int .i64 ((rd_T77 l0_0 a1).f1), .string (⟨#[]⟩ : ByteArray), .string (⟨#[]⟩ : ByteArray), .string (⟨#[]⟩ : ByteArray), .slice none 0 0]) ?_ 2 _ rfl; (with_reducible repeat (first | refine blk_drewN ?_ _ | refine blk_drew ?_ | refine blk_alloc ?_ _)); refine blk_put (cs := #[.int .i64 ((rd_T77 l0_0 a1).f0), .int .i64 0, .string (⟨#[]⟩ : ByteArray), .string (⟨#[]⟩ : ByteArray), .string (⟨#[]⟩ : ByteArray), .slice none 0 0]) ?_ 1 _ rfl; (with_reducible repeat (first | refine blk_drewN ?_ _ | refine blk_drew ?_ | refine blk_alloc ?_ _)); refine blk_put (cs := #[.int .i64 0, .int .i64 0, .string (⟨#[]⟩ : ByteArray), .string (⟨#[]⟩ : ByteArray), .string (⟨#[]⟩ : ByteArray), .slice none 0 0]) ?_ 0 _ rfl; (with_reducible repeat (first | refine blk_drewN ?_ _ | refine blk_drew ?_ | refine blk_alloc ?_ _)); exact BK389.out⟩
           have n3_ : Aside0 (Below w.heap.size w ((((((w81.setCell ⟨gb389, 0, none⟩ (.int .i64 ((rd_T77 l0_0 a1).f0))).setCell ⟨gb389, 1, none⟩ (.int .i64 ((rd_T77 l0_0 a1).f1))).setCell ⟨gb389, 2, none⟩ (.string ((rd_T77 l0_0 a1).f2))).setCell ⟨gb389, 3, none⟩ (.string ((rd_T77 l0_0 a1).f3))).setCell ⟨gb389, 4, none⟩ (.string ((rd_T77 l0_0 a1).f4))).setCell ⟨gb389, 5, none⟩ (.slice A388_5 ((rd_T77 l0_0 a1).f5).length c388_5))) := ⟨Hf_ HB⟩
           (try clear BK386)
           (try clear BK387)
           (try clear BK389)
           (try clear HB)
           generalize ((((((w81.setCell ⟨gb389, 0, none⟩ (.int .i64 ((rd_T77 l0_0 a1).f0))).setCell ⟨gb389, 1, none⟩ (.int .i64 ((rd_T77 l0_0 a1).f1))).setCell ⟨gb389, 2, none⟩ (.string ((rd_T77 l0_0 a1).f2))).setCell ⟨gb389, 3, none⟩ (.string ((rd_T77 l0_0 a1).f3))).setCell ⟨gb389, 4, none⟩ (.string ((rd_T77 l0_0 a1).f4))).setCell ⟨gb389, 5, none⟩ (.slice A388_5 ((rd_T77 l0_0 a1).f5).length c388_5)) = w85 at n0_ n1_ n2_ n3_ ⊢
           have BK386 := n0_
           have BK387 := n1_
           have BK389 := n2_
           have HB := n3_
           clear n0_ n1_ n2_ n3_
           replace BK386 := Aside0.mk (blk_drew BK386.out); replace BK387 := Aside0.mk (blk_drew BK387.out); replace BK389 := Aside0.mk (blk_drew BK389.out); replace HB := Aside0.mk (below_drew1 HB.out)
           have p391 : 0 ≤ (0 : Int) := (by omega)
           have q391 : 0 < (((rd_T77 l0_0 a1).f5).length : Int) := of_decide_eq_true As_
           obtain ⟨ad391, e391, hx391_0⟩ := Kd.at_int HR388_5.out 0 p391 q391
           have hw391_0 := hx391_0
           (try rw [show ((0 : Int)).toNat = 0 from rfl] at hw391_0)
           (try rw [show 0 * 1 = 0 from rfl] at hw391_0)
           (try rw [Addr.add_zero'] at hw391_0)
           cases e391
           have qi391 : (0 < ((rd_T77 l0_0 a1).f5).length) = True := eq_true (by omega)
           (try rw [show ((0 : Int)).toNat = 0 from rfl] at hx391_0)
           (try rw [Addr.add_zero'] at hx391_0)
           replace hx391_0 := Bw_ hx391_0 HB
           replace p391 := eq_true p391
           replace q391 := eq_true q391
           refine start_ (n := 12) (S := fun w' => w'.cell? ⟨gb386, 0, none⟩ = some (.slice (some ad388) l0_0.length c0_0) ∧ w'.cell? ⟨gb386, 1, none⟩ = some (.slice A0_1 l0_1.length c0_1) ∧ w'.cell? ⟨gb386, 2, none⟩ = some (.slice A0_2 l0_2.length c0_2) ∧ w'.cell? ⟨gb389, 0, none⟩ = some (.int .i64 ((rd_T77 l0_0 a1).f0)) ∧ w'.cell? ⟨gb389, 1, none⟩ = some (.int .i64 ((rd_T77 l0_0 a1).f1)) ∧ w'.cell? ⟨gb389, 2, none⟩ = some (.string ((rd_T77 l0_0 a1).f2)) ∧ w'.cell? ⟨gb389, 3, none⟩ = some (.string ((rd_T77 l0_0 a1).f3)) ∧ w'.cell? ⟨gb389, 4, none⟩ = some (.string ((rd_T77 l0_0 a1).f4)) ∧ w'.cell? ⟨gb389, 5, none⟩ = some (.slice (some ad391) ((rd_T77 l0_0 a1).f5).length c388_5) ∧ w'.cell? ⟨gb387, 0, none⟩ = some (.slice A2_0 l2_0.length c2_0) ∧ w'.cell? ⟨gb387, 1, none⟩ = some (.slice A2_1 l2_1.length c2_1) ∧ w'.cell? ad391 = some (.int .i64 (rd ((rd_T77 l0_0 a1).f5) 0))) (ds := []) #[false, false, false, false, false, false, false, false, false, false, false, false] (by kernel_rfl) rfl rfl ⟨(blk_cell BK386.out 0).trans rfl, (blk_cell BK386.out 1).trans rfl, (blk_cell BK386.out 2).trans rfl, (blk_cell BK389.out 0).trans rfl, (blk_cell BK389.out 1).trans rfl, (blk_cell BK389.out 2).trans rfl, (blk_cell BK389.out 3).trans rfl, (blk_cell BK389.out 4).trans rfl, (blk_cell BK389.out 5).trans rfl, (blk_cell BK387.out 0).trans rfl, (blk_cell BK387.out 1).trans rfl, (Bw_ hw391_0 HB)⟩ (fun hHeld => ?_); refine with_tabW spec_l10Value.tab6 spec_l10Value.bits6 (fun HT_ HW_ => ?_)
           generalize w85.drew = w86 at BK386 BK387 BK389 HB hx391_0 hHeld ⊢
           refine Pu_ 1 (some 32) HT_ ?_
           refine Tk_ 0 (some 31) HT_ HW_ hHeld ?_
           refine Tk_ 2 (some 33) HT_ HW_ hHeld ?_
           refine Pu_ 3 (some 34) HT_ ?_
           refine Tk_ 4 (some 35) HT_ HW_ hHeld ?_
           refine Tk_ 5 (some 36) HT_ HW_ hHeld ?_
           refine On_ 6 (some 37) HT_ (fun K hK => ?_)
           refine Gs_ Try.func101 ((ih k (by omega) _ _ l0_0 _ _ l0_1 _ _ l0_2 (rd ((rd_T77 l0_0 a1).f5) 0) _ _ l2_0 _ _ l2_1 t392 t393 _ (Sc_ HR0_0 HB) HC0_0.out (Sc_ HR0_1 HB) HC0_1.out (Sc_ HR0_2 HB) HC0_2.out (Sc_ HR2_0 HB) HC2_0.out (Sc_ HR2_1 HB) HC2_1.out A28.out).mono ?_)
           rintro e w87 ⟨rfl, hb⟩
           refine ⟨_, rfl, ?_⟩
           replace BK386 := Bb_ BK386 hb; replace BK387 := Bb_ BK387 hb; replace BK389 := Bb_ BK389 hb; replace HB := Hs_ HB hb
           clear hb
           refine hK.out _ _ ⟨(blk_cell BK386.out 0).trans rfl, (blk_cell BK386.out 1).trans rfl, (blk_cell BK386.out 2).trans rfl, (blk_cell BK389.out 0).trans rfl, (blk_cell BK389.out 1).trans rfl, (blk_cell BK389.out 2).trans rfl, (blk_cell BK389.out 3).trans rfl, (blk_cell BK389.out 4).trans rfl, (blk_cell BK389.out 5).trans rfl, (blk_cell BK387.out 0).trans rfl, (blk_cell BK387.out 1).trans rfl, (Bw_ hw391_0 HB)⟩ (fun hHeld => ?_)
           clear hK K
           refine No_ (some 37) ?_
           refine Pu_ 7 (some 30) HT_ ?_
           refine Pu_ 8 (some 38) HT_ ?_
           refine Pu_ 9 (some 39) HT_ ?_
           refine Pu_ 10 (some 9) HT_ ?_
           refine Pu_ 11 (some 10) HT_ ?_
           refine done_ (done_of HT_.out (by kernel_rfl)) ?_
           obtain ⟨hcz88_0, hcz88_1, hcz88_2, hcz88_3, hcz88_4, hcz88_5, hfz88_0, hfz88_1, hfz88_2, hfz88_3, hfz88_4, hfz88_5⟩ := Bc6_ BK389
           try go_wp2
           replace BK386 := Aside0.mk (blk_drew BK386.out); replace BK387 := Aside0.mk (blk_drew BK387.out); replace BK389 := Aside0.mk (blk_drew BK389.out); replace HB := Aside0.mk (below_drew1 HB.out)
           have p397 : 0 ≤ (1 : Int) := (by omega)
           have q397 : 1 < (((rd_T77 l0_0 a1).f5).length : Int) := of_decide_eq_true As_
           obtain ⟨ad397, e397, hx397_0⟩ := Kd.at_int HR388_5.out 1 p397 q397
           have hw397_0 := hx397_0
           (try rw [show ((1 : Int)).toNat = 1 from rfl] at hw397_0)
           (try rw [show 1 * 1 = 1 from rfl] at hw397_0)
           (try simp only [Nat.reduceMul, Nat.reduceEqDiff, Go.Addr.add, ↓reduceIte] at hw397_0)
           obtain rfl : ad391 = ad397 := (by injection e397)
           (try simp only [show (1 : Int).toNat = 1 from rfl, Nat.reduceMul, Nat.reduceEqDiff, Go.Addr.add, ↓reduceIte] at hx397_0)
           have qi397 : (1 < ((rd_T77 l0_0 a1).f5).length) = True := eq_true (by omega)
           (try rw [show ((1 : Int)).toNat = 1 from rfl] at hx397_0)
           replace hx397_0 := Bw_ hx397_0 HB
           replace p397 := eq_true p397
           replace q397 := eq_true q397
           refine start_ (n := 12) (S := fun w' => w'.cell? ⟨gb386, 0, none⟩ = some (.slice (some ad388) l0_0.length c0_0) ∧ w'.cell? ⟨gb386, 1, none⟩ = some (.slice A0_1 l0_1.length c0_1) ∧ w'.cell? ⟨gb386, 2, none⟩ = some (.slice A0_2 l0_2.length c0_2) ∧ w'.cell? ⟨gb389, 0, none⟩ = some (.int .i64 ((rd_T77 l0_0 a1).f0)) ∧ w'.cell? ⟨gb389, 1, none⟩ = some (.int .i64 ((rd_T77 l0_0 a1).f1)) ∧ w'.cell? ⟨gb389, 2, none⟩ = some (.string ((rd_T77 l0_0 a1).f2)) ∧ w'.cell? ⟨gb389, 3, none⟩ = some (.string ((rd_T77 l0_0 a1).f3)) ∧ w'.cell? ⟨gb389, 4, none⟩ = some (.string ((rd_T77 l0_0 a1).f4)) ∧ w'.cell? ⟨gb389, 5, none⟩ = some (.slice (some ad391) ((rd_T77 l0_0 a1).f5).length c388_5) ∧ w'.cell? ⟨gb387, 0, none⟩ = some (.slice A2_0 l2_0.length c2_0) ∧ w'.cell? ⟨gb387, 1, none⟩ = some (.slice A2_1 l2_1.length c2_1) ∧ w'.cell? ⟨ad391.block, ad391.off + 1, none⟩ = some (.int .i64 (rd ((rd_T77 l0_0 a1).f5) 1))) (ds := []) #[false, false, false, false, false, false, false, false, false, false, false, false] (by kernel_rfl) rfl rfl ⟨(blk_cell BK386.out 0).trans rfl, (blk_cell BK386.out 1).trans rfl, (blk_cell BK386.out 2).trans rfl, (blk_cell BK389.out 0).trans rfl, (blk_cell BK389.out 1).trans rfl, (blk_cell BK389.out 2).trans rfl, (blk_cell BK389.out 3).trans rfl, (blk_cell BK389.out 4).trans rfl, (blk_cell BK389.out 5).trans rfl, (blk_cell BK387.out 0).trans rfl, (blk_cell BK387.out 1).trans rfl, (Bw_ hw397_0 HB)⟩ (fun hHeld => ?_); refine with_tabW spec_l10Value.tab14 spec_l10Value.bits14 (fun HT_ HW_ => ?_)
           generalize w87.drew = w89 at BK386 BK387 BK389 HB hx397_0 hHeld ⊢
           refine Pu_ 1 (some 57) HT_ ?_
           refine Tk_ 0 (some 56) HT_ HW_ hHeld ?_
           refine Tk_ 2 (some 58) HT_ HW_ hHeld ?_
           refine Pu_ 3 (some 59) HT_ ?_
           refine Tk_ 4 (some 60) HT_ HW_ hHeld ?_
           refine Tk_ 5 (some 61) HT_ HW_ hHeld ?_
           refine On_ 6 (some 62) HT_ (fun K hK => ?_)
           refine Gs_ Try.func101 ((ih k (by omega) _ _ l0_0 _ _ l0_1 _ _ l0_2 (rd ((rd_T77 l0_0 a1).f5) 1) _ _ l2_0 _ _ l2_1 t398 t399 _ (Sc_ HR0_0 HB) HC0_0.out (Sc_ HR0_1 HB) HC0_1.out (Sc_ HR0_2 HB) HC0_2.out (Sc_ HR2_0 HB) HC2_0.out (Sc_ HR2_1 HB) HC2_1.out A59.out).mono ?_)
           rintro e w90 ⟨rfl, hb⟩
           refine ⟨_, rfl, ?_⟩
           replace BK386 := Bb_ BK386 hb; replace BK387 := Bb_ BK387 hb; replace BK389 := Bb_ BK389 hb; replace HB := Hs_ HB hb
           clear hb
           refine hK.out _ _ ⟨(blk_cell BK386.out 0).trans rfl, (blk_cell BK386.out 1).trans rfl, (blk_cell BK386.out 2).trans rfl, (blk_cell BK389.out 0).trans rfl, (blk_cell BK389.out 1).trans rfl, (blk_cell BK389.out 2).trans rfl, (blk_cell BK389.out 3).trans rfl, (blk_cell BK389.out 4).trans rfl, (blk_cell BK389.out 5).trans rfl, (blk_cell BK387.out 0).trans rfl, (blk_cell BK387.out 1).trans rfl, (Bw_ hw397_0 HB)⟩ (fun hHeld => ?_)
           clear hK K
           refine No_ (some 62) ?_
           refine Pu_ 7 (some 55) HT_ ?_
           refine Pu_ 8 (some 63) HT_ ?_
           refine Pu_ 9 (some 64) HT_ ?_
           refine Pu_ 10 (some 11) HT_ ?_
           refine Pu_ 11 (some 12) HT_ ?_
           refine done_ (done_of HT_.out (by kernel_rfl)) ?_
           try go_wp2
           go_ret2
           exact ⟨Re_, Hf_ HB⟩
         ·rw [if_neg c58] at H
          exact absurd H (by simp)
      ·rw [if_neg c29] at H
       have c29b0 := beq_eq_false_iff_ne.mpr c29
       have c29b1 := bne_iff_ne.mpr c29
       simp only [Option.some.injEq, Prod.mk.injEq] at H
       obtain ⟨rfl, rfl⟩ := H
       go_enter Try.func101, Try.ntmps101
       try go_wp2_with (first | (refine Bv_ 3 #[.slice A0_0 l0_0.length c0_0, .slice A0_1 l0_1.length c0_1, .slice A0_2 l0_2.length c0_2] 40 ?_; intro gb386 hg w91 BK386 hb; have GW386 := Hg_ HB hg; replace HB := Hs_ HB hb; clear hb hg) | (refine Bv_ 5 #[.slice A2_0 l2_0.length c2_0, .slice A2_1 l2_1.length c2_1] 42 ?_; intro gb387 hg w92 BK387 hb; have GW387 := Hg_ HB hg; have NB386_387 := Bl_ BK386 hg; have NB387_386 := Bm_ NB386_387; replace BK386 := Bb_ BK386 hb; replace HB := Hs_ HB hb; clear hb hg; have hnb93 := NB386_387.out; have hnc93 := NB387_386.out; obtain ⟨hcz94_0, hcz94_1, hcz94_2, hfz94_0, hfz94_1, hfz94_2⟩ := Bc3_ BK386; have p388 : 0 ≤ (a1 : Int) := of_decide_eq_true As_; have q388 : a1 < (l0_0.length : Int) := of_decide_eq_true As_; obtain ⟨ad388, A388_5, c388_5, e388, hx388_0, hx388_1, hx388_2, hx388_3, hx388_4, hx388_5, hl388_5, hi388_5⟩ := at_T77 HR0_0.out a1 p388 q388; cases e388; replace hx388_0 := Bw_ hx388_0 HB; replace hx388_1 := Bw_ hx388_1 HB; replace hx388_2 := Bw_ hx388_2 HB; replace hx388_3 := Bw_ hx388_3 HB; replace hx388_4 := Bw_ hx388_4 HB; replace hx388_5 := Bw_ hx388_5 HB; have HR388_5 := Aside0.mk hi388_5; have HC388_5 := Aside0.mk hl388_5; clear hi388_5 hl388_5; replace p388 := eq_true p388; replace q388 := eq_true q388) | (refine Bv_ 8 #[.int .i64 0, .int .i64 0, .string (⟨#[]⟩ : ByteArray), .string (⟨#[]⟩ : ByteArray), .string (⟨#[]⟩ : ByteArray), .slice none 0 0] 77 ?_; intro gb389 hg w95 BK389 hb; have GW389 := Hg_ HB hg; have NB386_389 := Bl_ BK386 hg; have NB389_386 := Bm_ NB386_389; have NB387_389 := Bl_ BK387 hg; have NB389_387 := Bm_ NB387_389; replace BK386 := Bb_ BK386 hb; replace BK387 := Bb_ BK387 hb; replace HB := Hs_ HB hb; clear hb hg; have hnb96 := NB389_386.out; have hnc96 := NB386_389.out; have hnb97 := NB389_387.out; have hnc97 := NB387_389.out; obtain ⟨hcz98_0, hcz98_1, hcz98_2, hcz98_3, hcz98_4, hcz98_5, hfz98_0, hfz98_1, hfz98_2, hfz98_3, hfz98_4, hfz98_5⟩ := Bc6_ BK389))
       have n0_ : Aside0 (((((((w95.setCell ⟨gb389, 0, none⟩ (.int .i64 ((rd_T77 l0_0 a1).f0))).setCell ⟨gb389, 1, none⟩ (.int .i64 ((rd_T77 l0_0 a1).f1))).setCell ⟨gb389, 2, none⟩ (.string ((rd_T77 l0_0 a1).f2))).setCell ⟨gb389, 3, none⟩ (.string ((rd_T77 l0_0 a1).f3))).setCell ⟨gb389, 4, none⟩ (.string ((rd_T77 l0_0 a1).f4))).setCell ⟨gb389, 5, none⟩ (.slice A388_5 ((rd_T77 l0_0 a1).f5).length c388_5)).heap[gb386]? = some (.cells #[.slice (some ad388) l0_0.length c0_0, .slice A0_1 l0_1.length c0_1, .slice A0_2 l0_2.length c0_2] 40 (0, 0))) := ⟨by (with_reducible repeat (first | refine blk_drewN ?_ _ | refine blk_drew ?_ | refine blk_alloc ?_ _)); refine blk_far ?_ NB386_389.out _; (with_reducible repeat (first | refine blk_drewN ?_ _ | refine blk_drew ?_ | refine blk_alloc ?_ _)); refine blk_far ?_ NB386_389.out _; (with_reducible repeat (first | refine blk_drewN ?_ _ | refine blk_drew ?_ | refine blk_alloc ?_ _)); refine blk_far ?_ NB386_389.out _; (with_reducible repeat (first | refine blk_drewN ?_ _ | refine blk_drew ?_ | refine blk_alloc ?_ _)); refine blk_far ?_ NB386_389.out _; (with_reducible repeat (first | refine blk_drewN ?_ _ | refine blk_drew ?_ | refine blk_alloc ?_ _)); refine blk_far ?_ NB386_389.out _; (with_reducible repeat (first | refine blk_drewN ?_ _ | refine blk_drew ?_ | refine blk_alloc ?_ _)); refine blk_far ?_ NB386_389.out _; (with_reducible repeat (first | refine blk_drewN ?_ _ | refine blk_drew ?_ | refine blk_alloc ?_ _)); exact BK386.out⟩
       have n1_ : Aside0 (((((((w95.setCell ⟨gb389, 0, none⟩ (.int .i64 ((rd_T77 l0_0 a1).f0))).setCell ⟨gb389, 1, none⟩ (.int .i64 ((rd_T77 l0_0 a1).f1))).setCell ⟨gb389, 2, none⟩ (.string ((rd_T77 l0_0 a1).f2))).setCell ⟨gb389, 3, none⟩ (.string ((rd_T77 l0_0 a1).f3))).setCell ⟨gb389, 4, none⟩ (.string ((rd_T77 l0_0 a1).f4))).setCell ⟨gb389, 5, none⟩ (.slice A388_5 ((rd_T77 l0_0 a1).f5).length c388_5)).heap[gb387]? = some (.cells #[.slice A2_0 l2_0.length c2_0, .slice A2_1 l2_1.length c2_1] 42 (0, 0))) := ⟨by (with_reducible repeat (first | refine blk_drewN ?_ _ | refine blk_drew ?_ | refine blk_alloc ?_ _)); refine blk_far ?_ NB387_389.out _; (with_reducible repeat (first | refine blk_drewN ?_ _ | refine blk_drew ?_ | refine blk_alloc ?_ _)); refine blk_far ?_ NB387_389.out _; (with_reducible repeat (first | refine blk_drewN ?_ _ | refine blk_drew ?_ | refine blk_alloc ?_ _)); refine blk_far ?_ NB387_389.out _; (with_reducible repeat (first | refine blk_drewN ?_ _ | refine blk_drew ?_ | refine blk_alloc ?_ _)); refine blk_far ?_ NB387_389.out _; (with_reducible repeat (first | refine blk_drewN ?_ _ | refine blk_drew ?_ | refine blk_alloc ?_ _)); refine blk_far ?_ NB387_389.out _; (with_reducible repeat (first | refine blk_drewN ?_ _ | refine blk_drew ?_ | refine blk_alloc ?_ _)); refine blk_far ?_ NB387_389.out _; (with_reducible repeat (first | refine blk_drewN ?_ _ | refine blk_drew ?_ | refine blk_alloc ?_ _)); exact BK387.out⟩
       have n2_ : Aside0 (((((((w95.setCell ⟨gb389, 0, none⟩ (.int .i64 ((rd_T77 l0_0 a1).f0))).setCell ⟨gb389, 1, none⟩ (.int .i64 ((rd_T77 l0_0 a1).f1))).setCell ⟨gb389, 2, none⟩ (.string ((rd_T77 l0_0 a1).f2))).setCell ⟨gb389, 3, none⟩ (.string ((rd_T77 l0_0 a1).f3))).setCell ⟨gb389, 4, none⟩ (.string ((rd_T77 l0_0 a1).f4))).setCell ⟨gb389, 5, none⟩ (.slice A388_5 ((rd_T77 l0_0 a1).f5).length c388_5)).heap[gb389]? = some (.cells #[.int .i64 ((rd_T77 l0_0 a1).f0), .int .i64 ((rd_T77 l0_0 a1).f1), .string ((rd_T77 l0_0 a1).f2), .string ((rd_T77 l0_0 a1).f3), .string ((rd_T77 l0_0 a1).f4), .slice A388_5 ((rd_T77 l0_0 a1).f5).length c388_5] 77 (0, 0))) := ⟨by (with_reducible repeat (first | refine blk_drewN ?_ _ | refine blk_drew ?_ | refine blk_alloc ?_ _)); refine blk_put (cs := #[.int .i64 ((rd_T77 l0_0 a1).f0), .int .i64 ((rd_T77 l0_0 a1).f1), .string ((rd_T77 l0_0 a1).f2), .string ((rd_T77 l0_0 a1).f3), .string ((rd_T77 l0_0 a1).f4), .slice none 0 0]) ?_ 5 _ rfl; (with_reducible repeat (first | refine blk_drewN ?_ _ | refine blk_drew ?_ | refine blk_alloc ?_ _)); refine blk_put (cs := #[.int .i64 ((rd_T77 l0_0 a1).f0), .int .i64 ((rd_T77 l0_0 a1).f1), .string ((rd_T77 l0_0 a1).f2), .string ((rd_T77 l0_0 a1).f3), .string (⟨#[]⟩ : ByteArray), .slice none 0 0]) ?_ 4 _ rfl; (with_reducible repeat (first | refine blk_drewN ?_ _ | refine blk_drew ?_ | refine blk_alloc ?_ _)); refine blk_put (cs := #[.int .i64 ((rd_T77 l0_0 a1).f0), .int .i64 ((rd_T77 l0_0 a1).f1), .string ((rd_T77 l0_0 a1).f2), .string (⟨#[]⟩ : ByteArray), .string (⟨#[]⟩ : ByteArray), .slice none 0 0]) ?_ 3 _ rfl; (with_reducible repeat (first | refine blk_drewN ?_ _ | refine blk_drew ?_ | refine blk_alloc ?_ _)); refine blk_put (cs := #[.int .i64 ((rd_T77 l0_0 a1).f0), .int .i64 ((rd_T77 l0_0 a1).f1), .string (⟨#[]⟩ : ByteArray), .string (⟨#[]⟩ : ByteArray), .string (⟨#[]⟩ : ByteArray), .slice none 0 0]) ?_ 2 _ rfl; (with_reducible repeat (first | refine blk_drewN ?_ _ | refine blk_drew ?_ | refine blk_alloc ?_ _)); refine blk_put (cs := #[.int .i64 ((rd_T77 l0_0 a1).f0), .int .i64 0, .string (⟨#[]⟩ : ByteArray), .string (⟨#[]⟩ : ByteArray), .string (⟨#[]⟩ : ByteArray), .slice none 0 0]) ?_ 1 _ rfl; (with_reducible repeat (first | refine blk_drewN ?_ _ | refine blk_drew ?_ | refine blk_alloc ?_ _)); refine blk_put (cs := #[.int .i64 0, .int .i64 0, .string (⟨#[]⟩ : ByteArray), .string (⟨#[]⟩ : ByteArray), .string (⟨#[]⟩ : ByteArray), .slice none 0 0]) ?_ 0 _ rfl; (with_reducible repeat (first | refine blk_drewN ?_ _ | refine blk_drew ?_ | refine blk_alloc ?_ _)); exact BK389.out⟩
       have n3_ : Aside0 (Below w.heap.size w ((((((w95.setCell ⟨gb389, 0, none⟩ (.int .i64 ((rd_T77 l0_0 a1).f0))).setCell ⟨gb389, 1, none⟩ (.int .i64 ((rd_T77 l0_0 a1).f1))).setCell ⟨gb389, 2, none⟩ (.string ((rd_T77 l0_0 a1).f2))).setCell ⟨gb389, 3, none⟩ (.string ((rd_T77 l0_0 a1).f3))).setCell ⟨gb389, 4, none⟩ (.string ((rd_T77 l0_0 a1).f4))).setCell ⟨gb389, 5, none⟩ (.slice A388_5 ((rd_T77 l0_0 a1).f5).length c388_5))) := ⟨Hf_ HB⟩
       (try clear BK386)
       (try clear BK387)
       (try clear BK389)
       (try clear HB)
       generalize ((((((w95.setCell ⟨gb389, 0, none⟩ (.int .i64 ((rd_T77 l0_0 a1).f0))).setCell ⟨gb389, 1, none⟩ (.int .i64 ((rd_T77 l0_0 a1).f1))).setCell ⟨gb389, 2, none⟩ (.string ((rd_T77 l0_0 a1).f2))).setCell ⟨gb389, 3, none⟩ (.string ((rd_T77 l0_0 a1).f3))).setCell ⟨gb389, 4, none⟩ (.string ((rd_T77 l0_0 a1).f4))).setCell ⟨gb389, 5, none⟩ (.slice A388_5 ((rd_T77 l0_0 a1).f5).length c388_5)) = w99 at n0_ n1_ n2_ n3_ ⊢
       have BK386 := n0_
       have BK387 := n1_
       have BK389 := n2_
       have HB := n3_
       clear n0_ n1_ n2_ n3_
       replace BK386 := Aside0.mk (blk_drew BK386.out); replace BK387 := Aside0.mk (blk_drew BK387.out); replace BK389 := Aside0.mk (blk_drew BK389.out); replace HB := Aside0.mk (below_drew1 HB.out)
       have p391 : 0 ≤ (0 : Int) := (by omega)
       have q391 : 0 < (((rd_T77 l0_0 a1).f5).length : Int) := of_decide_eq_true As_
       obtain ⟨ad391, e391, hx391_0⟩ := Kd.at_int HR388_5.out 0 p391 q391
       have hw391_0 := hx391_0
       (try rw [show ((0 : Int)).toNat = 0 from rfl] at hw391_0)
       (try rw [show 0 * 1 = 0 from rfl] at hw391_0)
       (try rw [Addr.add_zero'] at hw391_0)
       cases e391
       have qi391 : (0 < ((rd_T77 l0_0 a1).f5).length) = True := eq_true (by omega)
       (try rw [show ((0 : Int)).toNat = 0 from rfl] at hx391_0)
       (try rw [Addr.add_zero'] at hx391_0)
       replace hx391_0 := Bw_ hx391_0 HB
       replace p391 := eq_true p391
       replace q391 := eq_true q391
       refine start_ (n := 12) (S := fun w' => w'.cell? ⟨gb386, 0, none⟩ = some (.slice (some ad388) l0_0.length c0_0) ∧ w'.cell? ⟨gb386, 1, none⟩ = some (.slice A0_1 l0_1.length c0_1) ∧ w'.cell? ⟨gb386, 2, none⟩ = some (.slice A0_2 l0_2.length c0_2) ∧ w'.cell? ⟨gb389, 0, none⟩ = some (.int .i64 ((rd_T77 l0_0 a1).f0)) ∧ w'.cell? ⟨gb389, 1, none⟩ = some (.int .i64 ((rd_T77 l0_0 a1).f1)) ∧ w'.cell? ⟨gb389, 2, none⟩ = some (.string ((rd_T77 l0_0 a1).f2)) ∧ w'.cell? ⟨gb389, 3, none⟩ = some (.string ((rd_T77 l0_0 a1).f3)) ∧ w'.cell? ⟨gb389, 4, none⟩ = some (.string ((rd_T77 l0_0 a1).f4)) ∧ w'.cell? ⟨gb389, 5, none⟩ = some (.slice (some ad391) ((rd_T77 l0_0 a1).f5).length c388_5) ∧ w'.cell? ⟨gb387, 0, none⟩ = some (.slice A2_0 l2_0.length c2_0) ∧ w'.cell? ⟨gb387, 1, none⟩ = some (.slice A2_1 l2_1.length c2_1) ∧ w'.cell? ad391 = some (.int .i64 (rd ((rd_T77 l0_0 a1).f5) 0))) (ds := []) #[false, false, false, false, false, false, false, false, false, false, false, false] (by kernel_rfl) rfl rfl ⟨(blk_cell BK386.out 0).trans rfl, (blk_cell BK386.out 1).trans rfl, (blk_cell BK386.out 2).trans rfl, (blk_cell BK389.out 0).trans rfl, (blk_cell BK389.out 1).trans rfl, (blk_cell BK389.out 2).trans rfl, (blk_cell BK389.out 3).trans rfl, (blk_cell BK389.out 4).trans rfl, (blk_cell BK389.out 5).trans rfl, (blk_cell BK387.out 0).trans rfl, (blk_cell BK387.out 1).trans rfl, (Bw_ hw391_0 HB)⟩ (fun hHeld => ?_); refine with_tabW spec_l10Value.tab6 spec_l10Value.bits6 (fun HT_ HW_ => ?_)
       generalize w99.drew = w100 at BK386 BK387 BK389 HB hx391_0 hHeld ⊢
       refine Pu_ 1 (some 32) HT_ ?_
       refine Tk_ 0 (some 31) HT_ HW_ hHeld ?_
       refine Tk_ 2 (some 33) HT_ HW_ hHeld ?_
       refine Pu_ 3 (some 34) HT_ ?_
       refine Tk_ 4 (some 35) HT_ HW_ hHeld ?_
       refine Tk_ 5 (some 36) HT_ HW_ hHeld ?_
       refine On_ 6 (some 37) HT_ (fun K hK => ?_)
       refine Gs_ Try.func101 ((ih k (by omega) _ _ l0_0 _ _ l0_1 _ _ l0_2 (rd ((rd_T77 l0_0 a1).f5) 0) _ _ l2_0 _ _ l2_1 t392 t393 _ (Sc_ HR0_0 HB) HC0_0.out (Sc_ HR0_1 HB) HC0_1.out (Sc_ HR0_2 HB) HC0_2.out (Sc_ HR2_0 HB) HC2_0.out (Sc_ HR2_1 HB) HC2_1.out A28.out).mono ?_)
       rintro e w101 ⟨rfl, hb⟩
       refine ⟨_, rfl, ?_⟩
       replace BK386 := Bb_ BK386 hb; replace BK387 := Bb_ BK387 hb; replace BK389 := Bb_ BK389 hb; replace HB := Hs_ HB hb
       clear hb
       refine hK.out _ _ ⟨(blk_cell BK386.out 0).trans rfl, (blk_cell BK386.out 1).trans rfl, (blk_cell BK386.out 2).trans rfl, (blk_cell BK389.out 0).trans rfl, (blk_cell BK389.out 1).trans rfl, (blk_cell BK389.out 2).trans rfl, (blk_cell BK389.out 3).trans rfl, (blk_cell BK389.out 4).trans rfl, (blk_cell BK389.out 5).trans rfl, (blk_cell BK387.out 0).trans rfl, (blk_cell BK387.out 1).trans rfl, (Bw_ hw391_0 HB)⟩ (fun hHeld => ?_)
       clear hK K
       refine No_ (some 37) ?_
       refine Pu_ 7 (some 30) HT_ ?_
       refine Pu_ 8 (some 38) HT_ ?_
       refine Pu_ 9 (some 39) HT_ ?_
       refine Pu_ 10 (some 9) HT_ ?_
       refine Pu_ 11 (some 10) HT_ ?_
       refine done_ (done_of HT_.out (by kernel_rfl)) ?_
       try go_wp2
       go_ret2
       exact ⟨Re_, Hf_ HB⟩
     ·rw [if_neg c27] at H
      exact absurd H (by simp)
  ·rw [if_neg c5] at H
   exact absurd H (by simp)
 ·rw [if_neg c4] at H
  exact absurd H (by simp)

end Go.Proofs.Ytmbkcbgbienjoaa.PFnExactValueOf
