/- The machine side of the law FnExactValueOf: for each function that it reaches, a Lean function and its contract. Written by a program of this session's over the kit's print. No condition. -/
import Derived.Test.YtmbkcbgbienjoaaCmq
import Derived.Test.YtmbkcbgbienjoaaPFnExactValueOfx0
import Derived.Test.YtmbkcbgbienjoaaPFnExactValueOfx2
import Derived.Test.YtmbkcbgbienjoaaPFnExactValueOfx7
import Derived.Test.YtmbkcbgbienjoaaPFnExactValueOfx12
import Derived.Test.YtmbkcbgbienjoaaPFnExactValueOfx15
namespace Go.Proofs.Ytmbkcbgbienjoaa.PFnExactValueOf
open Go.RowKit Go.Proofs.YtmbkcbgbienjoaaW.PrintWords Go.Proofs.YtmbkcbgbienjoaaW.PrintLast Go.Proofs.YtmbkcbgbienjoaaW.PrintMore Go.Proofs.Ytmbkcbgbienjoaa.Cmp
attribute [local go_sem] max2_int min2_int max_two min_two max_three min_three max_four min_four   -- for this text's walks alone
set_option linter.unusedVariables false
set_option maxHeartbeats 8000000
set_option maxRecDepth 100000
set_option linter.unusedSimpArgs false

/-! ### spec_ValueOf: function 48 -/
def spec_ValueOf.f (k : Nat) (l0_0 : List (S77)) (l0_1 : List (S106)) (l0_2 : List (S103)) (a1 : Int) (l2_0 : List ByteArray) (l2_1 : List Int) : Option (Int × Int) := (spec_DeepOf.f k l0_0 l0_1 l0_2 a1).bind fun t404 => (if t404 = 0 then (some (0, 1)) else (if 0 ≤ a1 then (if a1 < (l0_0.length : Int) then ((spec_l05Value.f ((rd_T77 l0_0 a1).f0)).bind fun t406 => (if t406 = true then ((spec_l10Value.f k l0_0 l0_1 l0_2 a1 l2_0 l2_1).bind fun bt407 => (some (bt407.1, bt407.2))) else (some (0, 1)))) else (none)) else (none)))
theorem spec_ValueOf.calls (k : Nat) (A0_0 : Option Addr) (c0_0 : Nat) (l0_0 : List (S77)) (A0_1 : Option Addr) (c0_1 : Nat) (l0_1 : List (S106)) (A0_2 : Option Addr) (c0_2 : Nat) (l0_2 : List (S103)) (a1 : Int) (A2_0 : Option Addr) (c2_0 : Nat) (l2_0 : List ByteArray) (A2_1 : Option Addr) (c2_1 : Nat) (l2_1 : List Int) (r1 : Int) (r2 : Int) (w : World) (hr0_0 : Kd.C k77 w A0_0 l0_0.length l0_0) (hc0_0 : l0_0.length ≤ c0_0) (hr0_1 : Kd.C k106 w A0_1 l0_1.length l0_1) (hc0_1 : l0_1.length ≤ c0_1) (hr0_2 : Kd.C k103 w A0_2 l0_2.length l0_2) (hc0_2 : l0_2.length ≤ c0_2) (hr2_0 : Kd.C Kd.string w A2_0 l2_0.length l2_0) (hc2_0 : l2_0.length ≤ c2_0) (hr2_1 : Kd.C (Kd.int .i64) w A2_1 l2_1.length l2_1) (hc2_1 : l2_1.length ≤ c2_1) (h : spec_ValueOf.f k l0_0 l0_1 l0_2 a1 l2_0 l2_1 = some (r1, r2)) :
  Calls Try.prog 48 #[.agg #[.slice A0_0 l0_0.length c0_0, .slice A0_1 l0_1.length c0_1, .slice A0_2 l0_2.length c0_2], .int .i64 a1, .agg #[.slice A2_0 l2_0.length c2_0, .slice A2_1 l2_1.length c2_1]] w fun e w' => e = .returned (.tuple #[.int .i64 r1, .int .i64 r2]) ∧ Below w.heap.size w w' := by
 have hu40 := Try.underlying40
 have hu42 := Try.underlying42
 have HR0_0 := Aside0.mk hr0_0
 have HC0_0 := Aside0.mk hc0_0
 clear hr0_0 hc0_0
 have HR0_1 := Aside0.mk hr0_1
 have HC0_1 := Aside0.mk hc0_1
 clear hr0_1 hc0_1
 have HR0_2 := Aside0.mk hr0_2
 have HC0_2 := Aside0.mk hc0_2
 clear hr0_2 hc0_2
 have HR2_0 := Aside0.mk hr2_0
 have HC2_0 := Aside0.mk hc2_0
 clear hr2_0 hc2_0
 have HR2_1 := Aside0.mk hr2_1
 have HC2_1 := Aside0.mk hc2_1
 clear hr2_1 hc2_1
 have HB := Aside0.mk (Below.refl w.heap.size w)
 have H : ((spec_DeepOf.f k l0_0 l0_1 l0_2 a1).bind fun t404 => (if t404 = 0 then (some (0, 1)) else (if 0 ≤ a1 then (if a1 < (l0_0.length : Int) then ((spec_l05Value.f ((rd_T77 l0_0 a1).f0)).bind fun t406 => (if t406 = true then ((spec_l10Value.f k l0_0 l0_1 l0_2 a1 l2_0 l2_1).bind fun bt407 => (some (bt407.1, bt407.2))) else (some (0, 1)))) else (none)) else (none)))) = some (r1, r2) := h
 clear h
 obtain ⟨t404, A4, H⟩ := Bo_ H
 by_cases c5 : t404 = 0
 ·rw [if_pos c5] at H
  have c5b0 := beq_iff_eq.mpr c5
  have c5b1 := bne_eq_false_iff_eq.mpr c5
  clear c5
  simp only [Option.some.injEq, Prod.mk.injEq] at H
  obtain ⟨rfl, rfl⟩ := H
  go_enter Try.func48, Try.ntmps48
  go_wp2_with (first | (refine Bv_ 3 #[.slice A0_0 l0_0.length c0_0, .slice A0_1 l0_1.length c0_1, .slice A0_2 l0_2.length c0_2] 40 ?_; intro gb402 hg w6 BK402 hb; have GW402 := Hg_ HB hg; replace HB := Hs_ HB hb; clear hb hg) | (refine Bv_ 5 #[.slice A2_0 l2_0.length c2_0, .slice A2_1 l2_1.length c2_1] 42 ?_; intro gb403 hg w7 BK403 hb; have GW403 := Hg_ HB hg; have NB402_403 := Bl_ BK402 hg; have NB403_402 := Bm_ NB402_403; replace BK402 := Bb_ BK402 hb; replace HB := Hs_ HB hb; clear hb hg; have hnb8 := NB402_403.out; have hnc8 := NB403_402.out; obtain ⟨hcz9_0, hcz9_1, hcz9_2, hfz9_0, hfz9_1, hfz9_2⟩ := Bc3_ BK402) | (refine Gl_ (some 10) Try.func37 ((spec_DeepOf.calls k _ _ l0_0 _ _ l0_1 _ _ l0_2 a1 t404 _ (Sc_ HR0_0 HB) HC0_0.out (Sc_ HR0_1 HB) HC0_1.out (Sc_ HR0_2 HB) HC0_2.out A4.out).mono ?_); rintro e w10 ⟨rfl, hb⟩; refine ⟨_, rfl, ?_⟩; replace BK402 := Bb_ BK402 hb; replace BK403 := Bb_ BK403 hb; replace HB := Hs_ HB hb; clear hb))
  go_ret2
  exact ⟨Re_, Hf_ HB⟩
 ·rw [if_neg c5] at H
  have c5b0 := beq_eq_false_iff_ne.mpr c5
  have c5b1 := bne_iff_ne.mpr c5
  by_cases c11 : 0 ≤ a1
  ·rw [if_pos c11] at H
   have c11b0 := decide_eq_true c11
   clear c11
   by_cases c12 : a1 < (l0_0.length : Int)
   ·rw [if_pos c12] at H
    have c12b0 := decide_eq_true c12
    clear c12
    obtain ⟨t406, A13, H⟩ := Bo_ H
    by_cases c14 : t406 = true
    ·subst c14
     rw [if_pos rfl] at H
     obtain ⟨⟨t407, t408⟩, A15, H⟩ := Bo_ H
     try dsimp only at H
     simp only [Option.some.injEq, Prod.mk.injEq] at H
     obtain ⟨rfl, rfl⟩ := H
     go_enter Try.func48, Try.ntmps48
     go_wp2_with (first | (refine Bv_ 3 #[.slice A0_0 l0_0.length c0_0, .slice A0_1 l0_1.length c0_1, .slice A0_2 l0_2.length c0_2] 40 ?_; intro gb402 hg w16 BK402 hb; have GW402 := Hg_ HB hg; replace HB := Hs_ HB hb; clear hb hg) | (refine Bv_ 5 #[.slice A2_0 l2_0.length c2_0, .slice A2_1 l2_1.length c2_1] 42 ?_; intro gb403 hg w17 BK403 hb; have GW403 := Hg_ HB hg; have NB402_403 := Bl_ BK402 hg; have NB403_402 := Bm_ NB402_403; replace BK402 := Bb_ BK402 hb; replace HB := Hs_ HB hb; clear hb hg; have hnb18 := NB402_403.out; have hnc18 := NB403_402.out; obtain ⟨hcz19_0, hcz19_1, hcz19_2, hfz19_0, hfz19_1, hfz19_2⟩ := Bc3_ BK402) | (refine Gl_ (some 10) Try.func37 ((spec_DeepOf.calls k _ _ l0_0 _ _ l0_1 _ _ l0_2 a1 t404 _ (Sc_ HR0_0 HB) HC0_0.out (Sc_ HR0_1 HB) HC0_1.out (Sc_ HR0_2 HB) HC0_2.out A4.out).mono ?_); rintro e w20 ⟨rfl, hb⟩; refine ⟨_, rfl, ?_⟩; replace BK402 := Bb_ BK402 hb; replace BK403 := Bb_ BK403 hb; replace HB := Hs_ HB hb; clear hb; obtain ⟨hcz21_0, hcz21_1, hcz21_2, hfz21_0, hfz21_1, hfz21_2⟩ := Bc3_ BK402; have p405 : 0 ≤ (a1 : Int) := of_decide_eq_true As_; have q405 : a1 < (l0_0.length : Int) := of_decide_eq_true As_; obtain ⟨ad405, A405_5, c405_5, e405, hx405_0, hx405_1, hx405_2, hx405_3, hx405_4, hx405_5, hl405_5, hi405_5⟩ := at_T77 HR0_0.out a1 p405 q405; cases e405; replace hx405_0 := Bw_ hx405_0 HB; replace hx405_1 := Bw_ hx405_1 HB; replace hx405_2 := Bw_ hx405_2 HB; replace hx405_3 := Bw_ hx405_3 HB; replace hx405_4 := Bw_ hx405_4 HB; replace hx405_5 := Bw_ hx405_5 HB; have HR405_5 := Aside0.mk hi405_5; have HC405_5 := Aside0.mk hl405_5; clear hi405_5 hl405_5; replace p405 := eq_true p405; replace q405 := eq_true q405) | (go_at_call 74; (with_reducible refine (spec_l05Value.calls ((rd_T77 l0_0 a1).f0) true _ A13.out).mono ?_); rintro e w' ⟨rfl, ⟨nd, rfl⟩⟩; obtain ⟨hcz22_0, hcz22_1, hfz22_0, hfz22_1⟩ := Bc2_ BK403) | (refine Gl_ (some 25) Try.func101 ((spec_l10Value.calls k _ _ l0_0 _ _ l0_1 _ _ l0_2 a1 _ _ l2_0 _ _ l2_1 t407 t408 _ (Sh_ HR0_0 HB) HC0_0.out (Sh_ HR0_1 HB) HC0_1.out (Sh_ HR0_2 HB) HC0_2.out (Sh_ HR2_0 HB) HC2_0.out (Sh_ HR2_1 HB) HC2_1.out A15.out).mono ?_); rintro e w23 ⟨rfl, hb⟩; refine ⟨_, rfl, ?_⟩; replace BK402 := Bb_ BK402 hb; replace BK403 := Bb_ BK403 hb; replace HB := Hs_ HB hb; clear hb))
     go_ret2
     exact ⟨Re_, Hf_ HB⟩
    ·replace c14 := Bool.eq_false_iff.mpr c14
     subst c14
     rw [if_neg Ff_] at H
     simp only [Option.some.injEq, Prod.mk.injEq] at H
     obtain ⟨rfl, rfl⟩ := H
     go_enter Try.func48, Try.ntmps48
     go_wp2_with (first | (refine Bv_ 3 #[.slice A0_0 l0_0.length c0_0, .slice A0_1 l0_1.length c0_1, .slice A0_2 l0_2.length c0_2] 40 ?_; intro gb402 hg w24 BK402 hb; have GW402 := Hg_ HB hg; replace HB := Hs_ HB hb; clear hb hg) | (refine Bv_ 5 #[.slice A2_0 l2_0.length c2_0, .slice A2_1 l2_1.length c2_1] 42 ?_; intro gb403 hg w25 BK403 hb; have GW403 := Hg_ HB hg; have NB402_403 := Bl_ BK402 hg; have NB403_402 := Bm_ NB402_403; replace BK402 := Bb_ BK402 hb; replace HB := Hs_ HB hb; clear hb hg; have hnb26 := NB402_403.out; have hnc26 := NB403_402.out; obtain ⟨hcz27_0, hcz27_1, hcz27_2, hfz27_0, hfz27_1, hfz27_2⟩ := Bc3_ BK402) | (refine Gl_ (some 10) Try.func37 ((spec_DeepOf.calls k _ _ l0_0 _ _ l0_1 _ _ l0_2 a1 t404 _ (Sc_ HR0_0 HB) HC0_0.out (Sc_ HR0_1 HB) HC0_1.out (Sc_ HR0_2 HB) HC0_2.out A4.out).mono ?_); rintro e w28 ⟨rfl, hb⟩; refine ⟨_, rfl, ?_⟩; replace BK402 := Bb_ BK402 hb; replace BK403 := Bb_ BK403 hb; replace HB := Hs_ HB hb; clear hb; obtain ⟨hcz29_0, hcz29_1, hcz29_2, hfz29_0, hfz29_1, hfz29_2⟩ := Bc3_ BK402; have p405 : 0 ≤ (a1 : Int) := of_decide_eq_true As_; have q405 : a1 < (l0_0.length : Int) := of_decide_eq_true As_; obtain ⟨ad405, A405_5, c405_5, e405, hx405_0, hx405_1, hx405_2, hx405_3, hx405_4, hx405_5, hl405_5, hi405_5⟩ := at_T77 HR0_0.out a1 p405 q405; cases e405; replace hx405_0 := Bw_ hx405_0 HB; replace hx405_1 := Bw_ hx405_1 HB; replace hx405_2 := Bw_ hx405_2 HB; replace hx405_3 := Bw_ hx405_3 HB; replace hx405_4 := Bw_ hx405_4 HB; replace hx405_5 := Bw_ hx405_5 HB; have HR405_5 := Aside0.mk hi405_5; have HC405_5 := Aside0.mk hl405_5; clear hi405_5 hl405_5; replace p405 := eq_true p405; replace q405 := eq_true q405) | (go_at_call 74; (with_reducible refine (spec_l05Value.calls ((rd_T77 l0_0 a1).f0) false _ A13.out).mono ?_); rintro e w' ⟨rfl, ⟨nd, rfl⟩⟩))
     go_ret2
     exact ⟨Re_, Hf_ HB⟩
   ·rw [if_neg c12] at H
    exact absurd H (by simp)
  ·rw [if_neg c11] at H
   exact absurd H (by simp)

/-! ### laws_toEnv: function 49 -/
def laws_toEnv.f (k : Nat) (l0_0 : List ByteArray) (l0_1 : List Int) : Option (List ByteArray × List Int) := (laws_toStringS.f k l0_0).bind fun t412 => ((laws_toIntS.f k l0_1).bind fun t415 => (some (t412, t415)))
theorem laws_toEnv.calls (k : Nat) (A0_0 : Option Addr) (c0_0 : Nat) (l0_0 : List ByteArray) (A0_1 : Option Addr) (c0_1 : Nat) (l0_1 : List Int) (r1 : List ByteArray) (r2 : List Int) (w : World) (hr0_0 : Kd.C Kd.string w A0_0 l0_0.length l0_0) (hc0_0 : l0_0.length ≤ c0_0) (hr0_1 : Kd.C (Kd.int .i64) w A0_1 l0_1.length l0_1) (hc0_1 : l0_1.length ≤ c0_1) (h : laws_toEnv.f k l0_0 l0_1 = some (r1, r2)) :
  Calls Try.prog 49 #[.agg #[.slice A0_0 l0_0.length c0_0, .slice A0_1 l0_1.length c0_1]] w fun e w' => ∃ v0_ v1_ : Value, e = .returned (.agg #[v0_, v1_]) ∧ Kd.R Kd.string 9 w' w.heap.size (fun _ => True) v0_ r1 ∧ Kd.R (Kd.int .i64) 3 w' w.heap.size (fun _ => True) v1_ r2 ∧ Below w.heap.size w w' := by
 have hu30 := Try.underlying30
 have hu42 := Try.underlying42
 have HR0_0 := Aside0.mk hr0_0
 have HC0_0 := Aside0.mk hc0_0
 clear hr0_0 hc0_0
 have HR0_1 := Aside0.mk hr0_1
 have HC0_1 := Aside0.mk hc0_1
 clear hr0_1 hc0_1
 have HB := Aside0.mk (Below.refl w.heap.size w)
 have H : ((laws_toStringS.f k l0_0).bind fun t412 => ((laws_toIntS.f k l0_1).bind fun t415 => (some (t412, t415)))) = some (r1, r2) := h
 clear h
 obtain ⟨t412, A2, H⟩ := Bo_ H
 obtain ⟨t415, A3, H⟩ := Bo_ H
 simp only [Option.some.injEq, Prod.mk.injEq] at H
 obtain ⟨rfl, rfl⟩ := H
 go_enter Try.func49, Try.ntmps49
 go_wp2_with (first | (refine Bv_ 1 #[.slice A0_0 l0_0.length c0_0, .slice A0_1 l0_1.length c0_1] 30 ?_; intro gb409 hg w4 BK409 hb; have GW409 := Hg_ HB hg; replace HB := Hs_ HB hb; clear hb hg) | (refine Bv_ 2 #[.slice none 0 0, .slice none 0 0] 42 ?_; intro gb410 hg w5 BK410 hb; have GW410 := Hg_ HB hg; have NB409_410 := Bl_ BK409 hg; have NB410_409 := Bm_ NB409_410; replace BK409 := Bb_ BK409 hb; replace HB := Hs_ HB hb; clear hb hg) | (refine Bv_ 3 #[.slice none 0 0, .slice none 0 0] 42 ?_; intro gb411 hg w6 BK411 hb; have GW411 := Hg_ HB hg; have NB409_411 := Bl_ BK409 hg; have NB411_409 := Bm_ NB409_411; have NB410_411 := Bl_ BK410 hg; have NB411_410 := Bm_ NB410_411; replace BK409 := Bb_ BK409 hb; replace BK410 := Bb_ BK410 hb; replace HB := Hs_ HB hb; clear hb hg; have hnb7 := NB409_410.out; have hnc7 := NB410_409.out; have hnb8 := NB409_411.out; have hnc8 := NB411_409.out; obtain ⟨hcz9_0, hcz9_1, hfz9_0, hfz9_1⟩ := Bc2_ BK409) | (refine Gl_ (some 6) Try.func29 ((laws_toStringS.calls k _ _ l0_0 t412 _ (Sc_ HR0_0 HB) HC0_0.out A2.out).mono ?_); rintro e w10 ⟨v413, rfl, ho0, hb⟩; refine ⟨_, rfl, ?_⟩; have HO414 := Aside0.mk (Kd.R_lower ho0 (below_size (Hf_ HB))); replace BK409 := Bb_ BK409 hb; replace BK410 := Bb_ BK410 hb; replace BK411 := Bb_ BK411 hb; replace HB := Hs_ HB hb; clear hb; (try clear ho0); obtain ⟨Ao11, co11, eo11⟩ := Kd.R_slice HO414.out; subst eo11; have hnb12 := NB411_410.out; have hnc12 := NB410_411.out; obtain ⟨hcz13_0, hcz13_1, hfz13_0, hfz13_1⟩ := Bc2_ BK411; obtain ⟨hcz14_0, hcz14_1, hfz14_0, hfz14_1⟩ := Bc2_ BK409) | (refine Gl_ (some 10) Try.func60 ((laws_toIntS.calls k _ _ l0_1 t415 _ (Kd.C_below HR0_1.out (Hf_ HB)) HC0_1.out A3.out).mono ?_); rintro e w15 ⟨v416, rfl, ho0, hb⟩; refine ⟨_, rfl, ?_⟩; have HO417 := Aside0.mk (Kd.R_lower ho0 (below_size (Hf_ HB))); replace HO414 := Aside0.mk (Kd.R_below (by (with_reducible repeat (first | apply Kd.R_alloc | apply Kd.R_drewN | apply Kd.R_drew)); exact (Kd.R_mono (Kd.R_far (p := ⟨gb411, 0, none⟩) (Kd.R_types HO414.out BK411.out (by decide)) (fun _ hk => hk.2) (.slice Ao11 t412.length co11)) (fun _ h_ => h_.1))) hb); replace BK409 := Aside0.mk (blk_below (g := gb409) (o := .cells #[.slice A0_0 l0_0.length c0_0, .slice A0_1 l0_1.length c0_1] 30 (0, 0)) (by (with_reducible repeat (first | refine blk_drewN ?_ _ | refine blk_drew ?_ | refine blk_alloc ?_ _)); refine blk_far ?_ NB409_411.out _; (with_reducible repeat (first | refine blk_drewN ?_ _ | refine blk_drew ?_ | refine blk_alloc ?_ _)); exact BK409.out) hb); replace BK410 := Aside0.mk (blk_below (g := gb410) (o := .cells #[.slice none 0 0, .slice none 0 0] 42 (0, 0)) (by (with_reducible repeat (first | refine blk_drewN ?_ _ | refine blk_drew ?_ | refine blk_alloc ?_ _)); refine blk_far ?_ NB410_411.out _; (with_reducible repeat (first | refine blk_drewN ?_ _ | refine blk_drew ?_ | refine blk_alloc ?_ _)); exact BK410.out) hb); replace BK411 := Aside0.mk (blk_below (g := gb411) (o := .cells #[.slice Ao11 t412.length co11, .slice none 0 0] 42 (0, 0)) (by (with_reducible repeat (first | refine blk_drewN ?_ _ | refine blk_drew ?_ | refine blk_alloc ?_ _)); refine blk_put (cs := #[.slice none 0 0, .slice none 0 0]) ?_ 0 _ rfl; (with_reducible repeat (first | refine blk_drewN ?_ _ | refine blk_drew ?_ | refine blk_alloc ?_ _)); exact BK411.out) hb); replace HB := Hs_ HB hb; clear hb; (try clear ho0); obtain ⟨Ao16, co16, eo16⟩ := Kd.R_slice HO417.out; subst eo16; obtain ⟨hcz17_0, hcz17_1, hfz17_0, hfz17_1⟩ := Bc2_ BK411; obtain ⟨hcz18_0, hcz18_1, hfz18_0, hfz18_1⟩ := Bc2_ BK410))
 refine bodyPost_ret (results_cell_row rfl _ _ gb410 42 #[.slice Ao11 t412.length co11, .slice Ao16 t415.length co16] (0, 0) _ rfl (by (with_reducible repeat (first | refine blk_drewN ?_ _ | refine blk_drew ?_ | refine blk_alloc ?_ _)); refine blk_put (cs := #[.slice Ao11 t412.length co11, .slice none 0 0]) ?_ 1 _ rfl; (with_reducible repeat (first | refine blk_drewN ?_ _ | refine blk_drew ?_ | refine blk_alloc ?_ _)); refine blk_put (cs := #[.slice none 0 0, .slice none 0 0]) ?_ 0 _ rfl; (with_reducible repeat (first | refine blk_drewN ?_ _ | refine blk_drew ?_ | refine blk_alloc ?_ _)); refine blk_far ?_ NB410_411.out _; (with_reducible repeat (first | refine blk_drewN ?_ _ | refine blk_drew ?_ | refine blk_alloc ?_ _)); exact BK410.out) Try.underlying42 rfl (by kernel_rfl)) rfl ?_
 exact ⟨_, _, Re_, by (with_reducible repeat (first | apply Kd.R_alloc | apply Kd.R_drewN | apply Kd.R_drew)); exact Kd.R_mono (Kd.R_far (p := ⟨gb410, 1, none⟩) (Kd.R_far (p := ⟨gb410, 0, none⟩) (Kd.R_far (p := ⟨gb411, 1, none⟩) (Kd.R_types (Kd.R_types HO414.out BK411.out (by decide)) BK410.out (by decide)) (fun _ hk => hk.1.2) (.slice Ao16 t415.length co16)) (fun _ hk => hk.2) (.slice Ao11 t412.length co11)) (fun _ hk => hk.2) (.slice Ao16 t415.length co16)) (fun _ hk => trivial), by (with_reducible repeat (first | apply Kd.R_alloc | apply Kd.R_drewN | apply Kd.R_drew)); exact Kd.R_mono (Kd.R_far (p := ⟨gb410, 1, none⟩) (Kd.R_far (p := ⟨gb410, 0, none⟩) (Kd.R_far (p := ⟨gb411, 1, none⟩) (Kd.R_types (Kd.R_types HO417.out BK411.out (by decide)) BK410.out (by decide)) (fun _ hk => hk.1.2) (.slice Ao16 t415.length co16)) (fun _ hk => hk.2) (.slice Ao11 t412.length co11)) (fun _ hk => hk.2) (.slice Ao16 t415.length co16)) (fun _ hk => trivial), Hf_ HB⟩

/-! ### impl_within: function 79 -/
def impl_within.f (a0 : Int) (a1 : Int) (a2 : Int) : Option (Bool) := if a0 ≥ a1 then (some (decide (a0 ≤ a2))) else (some false)
theorem impl_within.calls (a0 : Int) (a1 : Int) (a2 : Int) (r : Bool) (w : World) (h : impl_within.f a0 a1 a2 = some r) :
  Calls Try.prog 79 #[.int .i64 a0, .int .i64 a1, .int .i64 a2] w fun e w' => e = .returned (.bool r) ∧ Drawn0 w w' := by
 have H : (if a0 ≥ a1 then (some (decide (a0 ≤ a2))) else (some false)) = some r := h
 clear h
 by_cases c4 : a0 ≥ a1
 ·rw [if_pos c4] at H
  have c4b0 : decide (a1 ≤ a0) = true := decide_eq_true c4
  clear c4
  obtain rfl := Option.some.inj H
  go_enter Try.func79, Try.ntmps79
  go_wp2
  go_ret
  exact ⟨by first | rfl | (simp; done) | (simp [*]; done), by repeat (first | exact Drawn0.refl _ | apply Drawn0.step)⟩
 ·rw [if_neg c4] at H
  have c4b0 : decide (a1 ≤ a0) = false := decide_eq_false c4
  clear c4
  obtain rfl := Option.some.inj H
  go_enter Try.func79, Try.ntmps79
  go_wp2
  go_ret
  exact ⟨by first | rfl | (simp; done) | (simp [*]; done), by repeat (first | exact Drawn0.refl _ | apply Drawn0.step)⟩

/-! ### impl_isNode: function 78 -/
def impl_isNode.f (l0_0 : List (S77)) (l0_1 : List (S106)) (l0_2 : List (S103)) (a1 : Int) : Option (Bool) := (impl_within.f a1 0 (wrap64 ((l0_0.length : Int) - 1))).bind fun t419 => (some t419)
theorem impl_isNode.calls (A0_0 : Option Addr) (c0_0 : Nat) (l0_0 : List (S77)) (A0_1 : Option Addr) (c0_1 : Nat) (l0_1 : List (S106)) (A0_2 : Option Addr) (c0_2 : Nat) (l0_2 : List (S103)) (a1 : Int) (r : Bool) (w : World) (hr0_0 : Kd.C k77 w A0_0 l0_0.length l0_0) (hc0_0 : l0_0.length ≤ c0_0) (hr0_1 : Kd.C k106 w A0_1 l0_1.length l0_1) (hc0_1 : l0_1.length ≤ c0_1) (hr0_2 : Kd.C k103 w A0_2 l0_2.length l0_2) (hc0_2 : l0_2.length ≤ c0_2) (h : impl_isNode.f l0_0 l0_1 l0_2 a1 = some r) :
  Calls Try.prog 78 #[.agg #[.slice A0_0 l0_0.length c0_0, .slice A0_1 l0_1.length c0_1, .slice A0_2 l0_2.length c0_2], .int .i64 a1] w fun e w' => e = .returned (.bool r) ∧ Below w.heap.size w w' := by
 have hu40 := Try.underlying40
 have HR0_0 := Aside0.mk hr0_0
 have HC0_0 := Aside0.mk hc0_0
 clear hr0_0 hc0_0
 have HR0_1 := Aside0.mk hr0_1
 have HC0_1 := Aside0.mk hc0_1
 clear hr0_1 hc0_1
 have HR0_2 := Aside0.mk hr0_2
 have HC0_2 := Aside0.mk hc0_2
 clear hr0_2 hc0_2
 have HB := Aside0.mk (Below.refl w.heap.size w)
 have H : ((impl_within.f a1 0 (wrap64 ((l0_0.length : Int) - 1))).bind fun t419 => (some t419)) = some r := h
 clear h
 obtain ⟨t419, A3, H⟩ := Bo_ H
 obtain rfl := Option.some.inj H
 go_enter Try.func78, Try.ntmps78
 go_wp2_with (first | (refine Bv_ 2 #[.slice A0_0 l0_0.length c0_0, .slice A0_1 l0_1.length c0_1, .slice A0_2 l0_2.length c0_2] 40 ?_; intro gb418 hg w4 BK418 hb; have GW418 := Hg_ HB hg; replace HB := Hs_ HB hb; clear hb hg; obtain ⟨hcz5_0, hcz5_1, hcz5_2, hfz5_0, hfz5_1, hfz5_2⟩ := Bc3_ BK418) | (refine Gl_ (some 10) Try.func79 ((impl_within.calls a1 0 (wrap64 ((l0_0.length : Int) - 1)) t419 _ A3.out).mono ?_); rintro e w' ⟨rfl, ⟨nd, rfl⟩⟩; refine ⟨_, rfl, ?_⟩))
 go_ret
 exact ⟨Re_, Hf_ HB⟩

/-! ### slices_Index_int_int: function 127 -/
def slices_Index_int_int.l0 : Nat → List Int → Int → Int → Int → Option (Int)
 | 0, _, _, _, _ => none
 | k + 1, x0, x1, x7, x8 => if x8 < x7 then (if 0 ≤ x8 then (if x8 < (x0.length : Int) then (if x1 = (rd x0 x8) then (some x8) else (slices_Index_int_int.l0 k x0 x1 x7 (wrap64 (x8 + 1)))) else (none)) else (none)) else (some (-1))
def slices_Index_int_int.f (k : Nat) (l0 : List Int) (a1 : Int) : Option (Int) := slices_Index_int_int.l0 k l0 a1 (l0.length : Int) 0
theorem slices_Index_int_int.calls (k : Nat) (A0 : Option Addr) (c0 : Nat) (l0 : List Int) (a1 : Int) (r : Int) (w : World) (hr0 : Kd.C (Kd.int .i64) w A0 l0.length l0) (hc0 : l0.length ≤ c0) (h : slices_Index_int_int.f k l0 a1 = some r) :
  Calls Try.prog 127 #[.slice A0 l0.length c0, .int .i64 a1] w fun e w' => e = .returned (.int .i64 r) ∧ Drawn0 w w' := by
 have HR0 := Aside0.mk hr0
 have HC0 := Aside0.mk hc0
 clear hr0 hc0
 have H : (slices_Index_int_int.l0 k l0 a1 (l0.length : Int) 0) = some r := h
 clear h
 have H' := Aside0.mk H
 clear H
 go_enter Try.func127, Try.ntmps127
 go_wp2
 go_loopg [8] k (fun kq v8 w' => ∃ (x8_1 : Int), v8 = .int .i64 x8_1 ∧ Aside0 (slices_Index_int_int.l0 kq l0 a1 (l0.length : Int) x8_1 = some r) ∧ Aside0 (kq ≤ k) ∧ Drawn0 w w')
 case atStart => exact ⟨(0), Rr_, H', ⟨Nat.le_refl _⟩, by repeat (first | exact Drawn0.refl _ | apply Drawn0.step)⟩
 case round =>
  clear H'
  obtain ⟨x8_1, rfl, HA, HK1, ⟨m1, rfl⟩⟩ := hrel
  cases gk with
  | zero => exact absurd HA.out (by simp [slices_Index_int_int.l0])
  | succ k1 =>
   have H := HA.out
   clear HA
   simp only [slices_Index_int_int.l0] at H
   by_cases c3 : x8_1 < (l0.length : Int)
   ·rw [if_pos c3] at H
    have c3b0 := decide_eq_true c3
    clear c3
    by_cases c4 : 0 ≤ x8_1
    ·rw [if_pos c4] at H
     have c4b0 := decide_eq_true c4
     clear c4
     by_cases c5 : x8_1 < (l0.length : Int)
     ·rw [if_pos c5] at H
      have c5b0 := decide_eq_true c5
      clear c5
      by_cases c6 : a1 = (rd l0 x8_1)
      ·rw [if_pos c6] at H
       have c6b0 := beq_iff_eq.mpr c6
       have c6b1 := bne_eq_false_iff_eq.mpr c6
       clear c6
       obtain rfl := Option.some.inj H
       have p420 : 0 ≤ (x8_1 : Int) := of_decide_eq_true As_
       have q420 : x8_1 < (l0.length : Int) := of_decide_eq_true As_
       obtain ⟨ad420, e420, hx420_0⟩ := Kd.at_int HR0.out x8_1 p420 q420
       cases e420
       replace p420 := eq_true p420
       replace q420 := eq_true q420
       go_wp2
       go_ret
       exact ⟨by first | rfl | (simp; done) | (simp [*]; done), by repeat (first | exact Drawn0.refl _ | apply Drawn0.step)⟩
      ·rw [if_neg c6] at H
       have c6b0 := beq_eq_false_iff_ne.mpr c6
       have c6b1 := bne_iff_ne.mpr c6
       have H' := Aside0.mk H
       clear H
       have p420 : 0 ≤ (x8_1 : Int) := of_decide_eq_true As_
       have q420 : x8_1 < (l0.length : Int) := of_decide_eq_true As_
       obtain ⟨ad420, e420, hx420_0⟩ := Kd.at_int HR0.out x8_1 p420 q420
       cases e420
       replace p420 := eq_true p420
       replace q420 := eq_true q420
       go_wp2
       go_roundg k1
       case measure => have := HK1.out; omega
       case rel => exact ⟨(wrap64 (x8_1 + 1)), Rr_, H', ⟨by have := HK1.out; omega⟩, by repeat (first | exact Drawn0.refl _ | apply Drawn0.step)⟩
     ·rw [if_neg c5] at H
      exact absurd H (by simp)
    ·rw [if_neg c4] at H
     exact absurd H (by simp)
   ·rw [if_neg c3] at H
    have c3b0 := decide_eq_false c3
    clear c3
    obtain rfl := Option.some.inj H
    go_wp2
    go_ret
    exact ⟨by first | rfl | (simp; done) | (simp [*]; done), by repeat (first | exact Drawn0.refl _ | apply Drawn0.step)⟩

/-! ### slices_Contains_int_int: function 80 -/
def slices_Contains_int_int.f (k : Nat) (l0 : List Int) (a1 : Int) : Option (Bool) := (slices_Index_int_int.f k l0 a1).bind fun t421 => (some (decide (t421 ≥ 0)))
theorem slices_Contains_int_int.calls (k : Nat) (A0 : Option Addr) (c0 : Nat) (l0 : List Int) (a1 : Int) (r : Bool) (w : World) (hr0 : Kd.C (Kd.int .i64) w A0 l0.length l0) (hc0 : l0.length ≤ c0) (h : slices_Contains_int_int.f k l0 a1 = some r) :
  Calls Try.prog 80 #[.slice A0 l0.length c0, .int .i64 a1] w fun e w' => e = .returned (.bool r) ∧ Drawn0 w w' := by
 have HR0 := Aside0.mk hr0
 have HC0 := Aside0.mk hc0
 clear hr0 hc0
 have H : ((slices_Index_int_int.f k l0 a1).bind fun t421 => (some (decide (t421 ≥ 0)))) = some r := h
 clear h
 obtain ⟨t421, A3, H⟩ := Bo_ H
 obtain rfl := Option.some.inj H
 go_enter Try.func80, Try.ntmps80
 go_wp2_with (first | ((with_reducible refine gate_callee (f := 127) rfl ?_); refine goesL_ (some 7) rfl rfl Try.func127 (by kernel_rfl) rfl #[.slice A0 l0.length c0, .int .i64 a1] rfl Mp_ ?_; (with_reducible refine (slices_Index_int_int.calls k _ _ l0 a1 t421 _ ?side1 ?side2 A3.out).mono ?_); (case side1 => repeat (first | exact HR0.out | (with_reducible refine Kd.C_alloc ?_ _) | (with_reducible refine Kd.C_drewN ?_ _) | (with_reducible refine Kd.C_drew ?_))); (case side2 => exact HC0.out); rintro e w' ⟨rfl, ⟨nd, rfl⟩⟩; refine ⟨_, rfl, ?_⟩))
 go_ret
 exact ⟨by first | rfl | (simp; done) | (simp [*]; done), by repeat (first | exact Drawn0.refl _ | apply Drawn0.step)⟩

/-! ### impl_isBlock: function 96 -/
def impl_isBlock.f (l0_0 : List (S77)) (l0_1 : List (S106)) (l0_2 : List (S103)) (a1 : Int) : Option (Bool) := (impl_isNode.f l0_0 l0_1 l0_2 a1).bind fun t423 => (if t423 = true then (if 0 ≤ a1 then (if a1 < (l0_0.length : Int) then (some (((rd_T77 l0_0 a1).f0) == 20)) else (none)) else (none)) else (some false))
theorem impl_isBlock.calls (A0_0 : Option Addr) (c0_0 : Nat) (l0_0 : List (S77)) (A0_1 : Option Addr) (c0_1 : Nat) (l0_1 : List (S106)) (A0_2 : Option Addr) (c0_2 : Nat) (l0_2 : List (S103)) (a1 : Int) (r : Bool) (w : World) (hr0_0 : Kd.C k77 w A0_0 l0_0.length l0_0) (hc0_0 : l0_0.length ≤ c0_0) (hr0_1 : Kd.C k106 w A0_1 l0_1.length l0_1) (hc0_1 : l0_1.length ≤ c0_1) (hr0_2 : Kd.C k103 w A0_2 l0_2.length l0_2) (hc0_2 : l0_2.length ≤ c0_2) (h : impl_isBlock.f l0_0 l0_1 l0_2 a1 = some r) :
  Calls Try.prog 96 #[.agg #[.slice A0_0 l0_0.length c0_0, .slice A0_1 l0_1.length c0_1, .slice A0_2 l0_2.length c0_2], .int .i64 a1] w fun e w' => e = .returned (.bool r) ∧ Below w.heap.size w w' := by
 have hu40 := Try.underlying40
 have HR0_0 := Aside0.mk hr0_0
 have HC0_0 := Aside0.mk hc0_0
 clear hr0_0 hc0_0
 have HR0_1 := Aside0.mk hr0_1
 have HC0_1 := Aside0.mk hc0_1
 clear hr0_1 hc0_1
 have HR0_2 := Aside0.mk hr0_2
 have HC0_2 := Aside0.mk hc0_2
 clear hr0_2 hc0_2
 have HB := Aside0.mk (Below.refl w.heap.size w)
 have H : ((impl_isNode.f l0_0 l0_1 l0_2 a1).bind fun t423 => (if t423 = true then (if 0 ≤ a1 then (if a1 < (l0_0.length : Int) then (some (((rd_T77 l0_0 a1).f0) == 20)) else (none)) else (none)) else (some false))) = some r := h
 clear h
 obtain ⟨t423, A3, H⟩ := Bo_ H
 by_cases c4 : t423 = true
 ·subst c4
  rw [if_pos rfl] at H
  by_cases c5 : 0 ≤ a1
  ·rw [if_pos c5] at H
   have c5b0 := decide_eq_true c5
   clear c5
   by_cases c6 : a1 < (l0_0.length : Int)
   ·rw [if_pos c6] at H
    have c6b0 := decide_eq_true c6
    clear c6
    obtain rfl := Option.some.inj H
    go_enter Try.func96, Try.ntmps96
    go_wp2_with (first | (refine Bv_ 2 #[.slice A0_0 l0_0.length c0_0, .slice A0_1 l0_1.length c0_1, .slice A0_2 l0_2.length c0_2] 40 ?_; intro gb422 hg w7 BK422 hb; have GW422 := Hg_ HB hg; replace HB := Hs_ HB hb; clear hb hg; obtain ⟨hcz8_0, hcz8_1, hcz8_2, hfz8_0, hfz8_1, hfz8_2⟩ := Bc3_ BK422) | (refine Gl_ (some 7) Try.func78 ((impl_isNode.calls _ _ l0_0 _ _ l0_1 _ _ l0_2 a1 true _ (Sc_ HR0_0 HB) HC0_0.out (Sc_ HR0_1 HB) HC0_1.out (Sc_ HR0_2 HB) HC0_2.out A3.out).mono ?_); rintro e w9 ⟨rfl, hb⟩; refine ⟨_, rfl, ?_⟩; replace BK422 := Bb_ BK422 hb; replace HB := Hs_ HB hb; clear hb; obtain ⟨hcz10_0, hcz10_1, hcz10_2, hfz10_0, hfz10_1, hfz10_2⟩ := Bc3_ BK422; have p424 : 0 ≤ (a1 : Int) := of_decide_eq_true As_; have q424 : a1 < (l0_0.length : Int) := of_decide_eq_true As_; obtain ⟨ad424, A424_5, c424_5, e424, hx424_0, hx424_1, hx424_2, hx424_3, hx424_4, hx424_5, hl424_5, hi424_5⟩ := at_T77 HR0_0.out a1 p424 q424; cases e424; replace hx424_0 := Bw_ hx424_0 HB; replace hx424_1 := Bw_ hx424_1 HB; replace hx424_2 := Bw_ hx424_2 HB; replace hx424_3 := Bw_ hx424_3 HB; replace hx424_4 := Bw_ hx424_4 HB; replace hx424_5 := Bw_ hx424_5 HB; have HR424_5 := Aside0.mk hi424_5; have HC424_5 := Aside0.mk hl424_5; clear hi424_5 hl424_5; replace p424 := eq_true p424; replace q424 := eq_true q424))
    go_ret
    exact ⟨Re_, Hf_ HB⟩
   ·rw [if_neg c6] at H
    exact absurd H (by simp)
  ·rw [if_neg c5] at H
   exact absurd H (by simp)
 ·replace c4 := Bool.eq_false_iff.mpr c4
  subst c4
  rw [if_neg Ff_] at H
  obtain rfl := Option.some.inj H
  go_enter Try.func96, Try.ntmps96
  go_wp2_with (first | (refine Bv_ 2 #[.slice A0_0 l0_0.length c0_0, .slice A0_1 l0_1.length c0_1, .slice A0_2 l0_2.length c0_2] 40 ?_; intro gb422 hg w11 BK422 hb; have GW422 := Hg_ HB hg; replace HB := Hs_ HB hb; clear hb hg; obtain ⟨hcz12_0, hcz12_1, hcz12_2, hfz12_0, hfz12_1, hfz12_2⟩ := Bc3_ BK422) | (refine Gl_ (some 7) Try.func78 ((impl_isNode.calls _ _ l0_0 _ _ l0_1 _ _ l0_2 a1 false _ (Sc_ HR0_0 HB) HC0_0.out (Sc_ HR0_1 HB) HC0_1.out (Sc_ HR0_2 HB) HC0_2.out A3.out).mono ?_); rintro e w13 ⟨rfl, hb⟩; refine ⟨_, rfl, ?_⟩; replace BK422 := Bb_ BK422 hb; replace HB := Hs_ HB hb; clear hb))
  go_ret
  exact ⟨Re_, Hf_ HB⟩

/-! ### impl_isValue: function 102 -/
def impl_isValue.f (l0_0 : List (S77)) (l0_1 : List (S106)) (l0_2 : List (S103)) (a1 : Int) : Option (Bool) := (impl_isNode.f l0_0 l0_1 l0_2 a1).bind fun t426 => (if t426 = true then (if 0 ≤ a1 then (if a1 < (l0_0.length : Int) then ((impl_within.f ((rd_T77 l0_0 a1).f0) 1 5).bind fun t428 => (some t428)) else (none)) else (none)) else (some false))
theorem impl_isValue.calls (A0_0 : Option Addr) (c0_0 : Nat) (l0_0 : List (S77)) (A0_1 : Option Addr) (c0_1 : Nat) (l0_1 : List (S106)) (A0_2 : Option Addr) (c0_2 : Nat) (l0_2 : List (S103)) (a1 : Int) (r : Bool) (w : World) (hr0_0 : Kd.C k77 w A0_0 l0_0.length l0_0) (hc0_0 : l0_0.length ≤ c0_0) (hr0_1 : Kd.C k106 w A0_1 l0_1.length l0_1) (hc0_1 : l0_1.length ≤ c0_1) (hr0_2 : Kd.C k103 w A0_2 l0_2.length l0_2) (hc0_2 : l0_2.length ≤ c0_2) (h : impl_isValue.f l0_0 l0_1 l0_2 a1 = some r) :
  Calls Try.prog 102 #[.agg #[.slice A0_0 l0_0.length c0_0, .slice A0_1 l0_1.length c0_1, .slice A0_2 l0_2.length c0_2], .int .i64 a1] w fun e w' => e = .returned (.bool r) ∧ Below w.heap.size w w' := by
 have hu40 := Try.underlying40
 have HR0_0 := Aside0.mk hr0_0
 have HC0_0 := Aside0.mk hc0_0
 clear hr0_0 hc0_0
 have HR0_1 := Aside0.mk hr0_1
 have HC0_1 := Aside0.mk hc0_1
 clear hr0_1 hc0_1
 have HR0_2 := Aside0.mk hr0_2
 have HC0_2 := Aside0.mk hc0_2
 clear hr0_2 hc0_2
 have HB := Aside0.mk (Below.refl w.heap.size w)
 have H : ((impl_isNode.f l0_0 l0_1 l0_2 a1).bind fun t426 => (if t426 = true then (if 0 ≤ a1 then (if a1 < (l0_0.length : Int) then ((impl_within.f ((rd_T77 l0_0 a1).f0) 1 5).bind fun t428 => (some t428)) else (none)) else (none)) else (some false))) = some r := h
 clear h
 obtain ⟨t426, A3, H⟩ := Bo_ H
 by_cases c4 : t426 = true
 ·subst c4
  rw [if_pos rfl] at H
  by_cases c5 : 0 ≤ a1
  ·rw [if_pos c5] at H
   have c5b0 := decide_eq_true c5
   clear c5
   by_cases c6 : a1 < (l0_0.length : Int)
   ·rw [if_pos c6] at H
    have c6b0 := decide_eq_true c6
    clear c6
    obtain ⟨t428, A7, H⟩ := Bo_ H
    obtain rfl := Option.some.inj H
    go_enter Try.func102, Try.ntmps102
    go_wp2_with (first | (refine Bv_ 2 #[.slice A0_0 l0_0.length c0_0, .slice A0_1 l0_1.length c0_1, .slice A0_2 l0_2.length c0_2] 40 ?_; intro gb425 hg w8 BK425 hb; have GW425 := Hg_ HB hg; replace HB := Hs_ HB hb; clear hb hg; obtain ⟨hcz9_0, hcz9_1, hcz9_2, hfz9_0, hfz9_1, hfz9_2⟩ := Bc3_ BK425) | (refine Gl_ (some 7) Try.func78 ((impl_isNode.calls _ _ l0_0 _ _ l0_1 _ _ l0_2 a1 true _ (Sc_ HR0_0 HB) HC0_0.out (Sc_ HR0_1 HB) HC0_1.out (Sc_ HR0_2 HB) HC0_2.out A3.out).mono ?_); rintro e w10 ⟨rfl, hb⟩; refine ⟨_, rfl, ?_⟩; replace BK425 := Bb_ BK425 hb; replace HB := Hs_ HB hb; clear hb; obtain ⟨hcz11_0, hcz11_1, hcz11_2, hfz11_0, hfz11_1, hfz11_2⟩ := Bc3_ BK425; have p427 : 0 ≤ (a1 : Int) := of_decide_eq_true As_; have q427 : a1 < (l0_0.length : Int) := of_decide_eq_true As_; obtain ⟨ad427, A427_5, c427_5, e427, hx427_0, hx427_1, hx427_2, hx427_3, hx427_4, hx427_5, hl427_5, hi427_5⟩ := at_T77 HR0_0.out a1 p427 q427; cases e427; replace hx427_0 := Bw_ hx427_0 HB; replace hx427_1 := Bw_ hx427_1 HB; replace hx427_2 := Bw_ hx427_2 HB; replace hx427_3 := Bw_ hx427_3 HB; replace hx427_4 := Bw_ hx427_4 HB; replace hx427_5 := Bw_ hx427_5 HB; have HR427_5 := Aside0.mk hi427_5; have HC427_5 := Aside0.mk hl427_5; clear hi427_5 hl427_5; replace p427 := eq_true p427; replace q427 := eq_true q427) | (go_at_call 79; (with_reducible refine (impl_within.calls ((rd_T77 l0_0 a1).f0) 1 5 t428 _ A7.out).mono ?_); rintro e w' ⟨rfl, ⟨nd, rfl⟩⟩))
    go_ret
    exact ⟨Re_, Hf_ HB⟩
   ·rw [if_neg c6] at H
    exact absurd H (by simp)
  ·rw [if_neg c5] at H
   exact absurd H (by simp)
 ·replace c4 := Bool.eq_false_iff.mpr c4
  subst c4
  rw [if_neg Ff_] at H
  obtain rfl := Option.some.inj H
  go_enter Try.func102, Try.ntmps102
  go_wp2_with (first | (refine Bv_ 2 #[.slice A0_0 l0_0.length c0_0, .slice A0_1 l0_1.length c0_1, .slice A0_2 l0_2.length c0_2] 40 ?_; intro gb425 hg w12 BK425 hb; have GW425 := Hg_ HB hg; replace HB := Hs_ HB hb; clear hb hg; obtain ⟨hcz13_0, hcz13_1, hcz13_2, hfz13_0, hfz13_1, hfz13_2⟩ := Bc3_ BK425) | (refine Gl_ (some 7) Try.func78 ((impl_isNode.calls _ _ l0_0 _ _ l0_1 _ _ l0_2 a1 false _ (Sc_ HR0_0 HB) HC0_0.out (Sc_ HR0_1 HB) HC0_1.out (Sc_ HR0_2 HB) HC0_2.out A3.out).mono ?_); rintro e w14 ⟨rfl, hb⟩; refine ⟨_, rfl, ?_⟩; replace BK425 := Bb_ BK425 hb; replace HB := Hs_ HB hb; clear hb))
  go_ret
  exact ⟨Re_, Hf_ HB⟩

/-! ### impl_isStatement: function 128 -/
def impl_isStatement.f (l0_0 : List (S77)) (l0_1 : List (S106)) (l0_2 : List (S103)) (a1 : Int) : Option (Bool) := (impl_isNode.f l0_0 l0_1 l0_2 a1).bind fun t430 => (if t430 = true then (if 0 ≤ a1 then (if a1 < (l0_0.length : Int) then ((impl_within.f ((rd_T77 l0_0 a1).f0) 11 19).bind fun t432 => (some t432)) else (none)) else (none)) else (some false))
theorem impl_isStatement.calls (A0_0 : Option Addr) (c0_0 : Nat) (l0_0 : List (S77)) (A0_1 : Option Addr) (c0_1 : Nat) (l0_1 : List (S106)) (A0_2 : Option Addr) (c0_2 : Nat) (l0_2 : List (S103)) (a1 : Int) (r : Bool) (w : World) (hr0_0 : Kd.C k77 w A0_0 l0_0.length l0_0) (hc0_0 : l0_0.length ≤ c0_0) (hr0_1 : Kd.C k106 w A0_1 l0_1.length l0_1) (hc0_1 : l0_1.length ≤ c0_1) (hr0_2 : Kd.C k103 w A0_2 l0_2.length l0_2) (hc0_2 : l0_2.length ≤ c0_2) (h : impl_isStatement.f l0_0 l0_1 l0_2 a1 = some r) :
  Calls Try.prog 128 #[.agg #[.slice A0_0 l0_0.length c0_0, .slice A0_1 l0_1.length c0_1, .slice A0_2 l0_2.length c0_2], .int .i64 a1] w fun e w' => e = .returned (.bool r) ∧ Below w.heap.size w w' := by
 have hu40 := Try.underlying40
 have HR0_0 := Aside0.mk hr0_0
 have HC0_0 := Aside0.mk hc0_0
 clear hr0_0 hc0_0
 have HR0_1 := Aside0.mk hr0_1
 have HC0_1 := Aside0.mk hc0_1
 clear hr0_1 hc0_1
 have HR0_2 := Aside0.mk hr0_2
 have HC0_2 := Aside0.mk hc0_2
 clear hr0_2 hc0_2
 have HB := Aside0.mk (Below.refl w.heap.size w)
 have H : ((impl_isNode.f l0_0 l0_1 l0_2 a1).bind fun t430 => (if t430 = true then (if 0 ≤ a1 then (if a1 < (l0_0.length : Int) then ((impl_within.f ((rd_T77 l0_0 a1).f0) 11 19).bind fun t432 => (some t432)) else (none)) else (none)) else (some false))) = some r := h
 clear h
 obtain ⟨t430, A3, H⟩ := Bo_ H
 by_cases c4 : t430 = true
 ·subst c4
  rw [if_pos rfl] at H
  by_cases c5 : 0 ≤ a1
  ·rw [if_pos c5] at H
   have c5b0 := decide_eq_true c5
   clear c5
   by_cases c6 : a1 < (l0_0.length : Int)
   ·rw [if_pos c6] at H
    have c6b0 := decide_eq_true c6
    clear c6
    obtain ⟨t432, A7, H⟩ := Bo_ H
    obtain rfl := Option.some.inj H
    go_enter Try.func128, Try.ntmps128
    go_wp2_with (first | (refine Bv_ 2 #[.slice A0_0 l0_0.length c0_0, .slice A0_1 l0_1.length c0_1, .slice A0_2 l0_2.length c0_2] 40 ?_; intro gb429 hg w8 BK429 hb; have GW429 := Hg_ HB hg; replace HB := Hs_ HB hb; clear hb hg; obtain ⟨hcz9_0, hcz9_1, hcz9_2, hfz9_0, hfz9_1, hfz9_2⟩ := Bc3_ BK429) | (refine Gl_ (some 7) Try.func78 ((impl_isNode.calls _ _ l0_0 _ _ l0_1 _ _ l0_2 a1 true _ (Sc_ HR0_0 HB) HC0_0.out (Sc_ HR0_1 HB) HC0_1.out (Sc_ HR0_2 HB) HC0_2.out A3.out).mono ?_); rintro e w10 ⟨rfl, hb⟩; refine ⟨_, rfl, ?_⟩; replace BK429 := Bb_ BK429 hb; replace HB := Hs_ HB hb; clear hb; obtain ⟨hcz11_0, hcz11_1, hcz11_2, hfz11_0, hfz11_1, hfz11_2⟩ := Bc3_ BK429; have p431 : 0 ≤ (a1 : Int) := of_decide_eq_true As_; have q431 : a1 < (l0_0.length : Int) := of_decide_eq_true As_; obtain ⟨ad431, A431_5, c431_5, e431, hx431_0, hx431_1, hx431_2, hx431_3, hx431_4, hx431_5, hl431_5, hi431_5⟩ := at_T77 HR0_0.out a1 p431 q431; cases e431; replace hx431_0 := Bw_ hx431_0 HB; replace hx431_1 := Bw_ hx431_1 HB; replace hx431_2 := Bw_ hx431_2 HB; replace hx431_3 := Bw_ hx431_3 HB; replace hx431_4 := Bw_ hx431_4 HB; replace hx431_5 := Bw_ hx431_5 HB; have HR431_5 := Aside0.mk hi431_5; have HC431_5 := Aside0.mk hl431_5; clear hi431_5 hl431_5; replace p431 := eq_true p431; replace q431 := eq_true q431) | (go_at_call 79; (with_reducible refine (impl_within.calls ((rd_T77 l0_0 a1).f0) 11 19 t432 _ A7.out).mono ?_); rintro e w' ⟨rfl, ⟨nd, rfl⟩⟩))
    go_ret
    exact ⟨Re_, Hf_ HB⟩
   ·rw [if_neg c6] at H
    exact absurd H (by simp)
  ·rw [if_neg c5] at H
   exact absurd H (by simp)
 ·replace c4 := Bool.eq_false_iff.mpr c4
  subst c4
  rw [if_neg Ff_] at H
  obtain rfl := Option.some.inj H
  go_enter Try.func128, Try.ntmps128
  go_wp2_with (first | (refine Bv_ 2 #[.slice A0_0 l0_0.length c0_0, .slice A0_1 l0_1.length c0_1, .slice A0_2 l0_2.length c0_2] 40 ?_; intro gb429 hg w12 BK429 hb; have GW429 := Hg_ HB hg; replace HB := Hs_ HB hb; clear hb hg; obtain ⟨hcz13_0, hcz13_1, hcz13_2, hfz13_0, hfz13_1, hfz13_2⟩ := Bc3_ BK429) | (refine Gl_ (some 7) Try.func78 ((impl_isNode.calls _ _ l0_0 _ _ l0_1 _ _ l0_2 a1 false _ (Sc_ HR0_0 HB) HC0_0.out (Sc_ HR0_1 HB) HC0_1.out (Sc_ HR0_2 HB) HC0_2.out A3.out).mono ?_); rintro e w14 ⟨rfl, hb⟩; refine ⟨_, rfl, ?_⟩; replace BK429 := Bb_ BK429 hb; replace HB := Hs_ HB hb; clear hb))
  go_ret
  exact ⟨Re_, Hf_ HB⟩

end Go.Proofs.Ytmbkcbgbienjoaa.PFnExactValueOf
