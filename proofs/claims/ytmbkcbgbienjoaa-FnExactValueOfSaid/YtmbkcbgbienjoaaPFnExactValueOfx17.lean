/- The machine side of the law FnExactValueOf: for each function that it reaches, a Lean function and its contract. Written by a program of this session's over the kit's print. No condition. -/
import Derived.Test.YtmbkcbgbienjoaaCmq
import Derived.Test.YtmbkcbgbienjoaaPFnExactValueOfx0
import Derived.Test.YtmbkcbgbienjoaaPFnExactValueOfx16
namespace Go.Proofs.Ytmbkcbgbienjoaa.PFnExactValueOf
open Go.RowKit Go.Proofs.YtmbkcbgbienjoaaW.PrintWords Go.Proofs.YtmbkcbgbienjoaaW.PrintLast Go.Proofs.YtmbkcbgbienjoaaW.PrintMore Go.Proofs.Ytmbkcbgbienjoaa.Cmp
attribute [local go_sem] max2_int min2_int max_two min_two max_three min_three max_four min_four   -- for this text's walks alone
set_option linter.unusedVariables false
set_option maxHeartbeats 8000000
set_option maxRecDepth 100000
set_option linter.unusedSimpArgs false

/-! ### impl_kidsOk: function 81 -/
mutual
def impl_kidsOk.j2 : Nat → Int → Int → List (S77) → List (S106) → List (S103) → Int → Int → ByteArray → ByteArray → ByteArray → List Int → Option (Bool)
 | 0, _, _, _, _, _, _, _, _, _, _, _ => none
 | k + 1, x5, x6, x434000, x434001, x434002, x435000, x435001, x435002, x435003, x435004, x435005 => if (x435005.length : Int) = (wrap64 (x5 + x6)) then (impl_kidsOk.l1 k x5 x435005 (x435005.length : Int) 0 x434000 x434001 x434002) else (some false)
def impl_kidsOk.l1 : Nat → Int → List Int → Int → Int → List (S77) → List (S106) → List (S103) → Option (Bool)
 | 0, _, _, _, _, _, _, _ => none
 | k + 1, x5, x58, x59, x60, x434000, x434001, x434002 => if x60 < x59 then (if 0 ≤ x60 then (if x60 < (x58.length : Int) then (if x60 < x5 then ((impl_isValue.f x434000 x434001 x434002 (rd x58 x60)).bind fun t440 => (if t440 = true then (if x60 ≥ x5 then ((impl_isBlock.f x434000 x434001 x434002 (rd x58 x60)).bind fun t441 => (if t441 = true then (impl_kidsOk.l1 k x5 x58 x59 (wrap64 (x60 + 1)) x434000 x434001 x434002) else (some false))) else (impl_kidsOk.l1 k x5 x58 x59 (wrap64 (x60 + 1)) x434000 x434001 x434002)) else (some false))) else (if x60 ≥ x5 then ((impl_isBlock.f x434000 x434001 x434002 (rd x58 x60)).bind fun t442 => (if t442 = true then (impl_kidsOk.l1 k x5 x58 x59 (wrap64 (x60 + 1)) x434000 x434001 x434002) else (some false))) else (impl_kidsOk.l1 k x5 x58 x59 (wrap64 (x60 + 1)) x434000 x434001 x434002))) else (none)) else (none)) else (some true)
def impl_kidsOk.j0 : Nat → Int → Int → Int → Bool → List (S77) → List (S106) → List (S103) → Int → Int → ByteArray → ByteArray → ByteArray → List Int → Option (Bool)
 | 0, _, _, _, _, _, _, _, _, _, _, _, _, _ => none
 | k + 1, x5, x6, x12, x15, x434000, x434001, x434002, x435000, x435001, x435002, x435003, x435004, x435005 => if x15 = true then (impl_kidsOk.j2 k 1 x6 x434000 x434001 x434002 x435000 x435001 x435002 x435003 x435004 x435005) else (if x12 = 12 then ((impl_within.f (wrap64 ((x435005.length : Int) - 1)) 1 2).bind fun t435 => (if t435 = true then (impl_kidsOk.j2 k 1 (wrap64 ((x435005.length : Int) - 1)) x434000 x434001 x434002 x435000 x435001 x435002 x435003 x435004 x435005) else (some false))) else (if x12 = 13 then (impl_kidsOk.j2 k 1 1 x434000 x434001 x434002 x435000 x435001 x435002 x435003 x435004 x435005) else (if x12 = 20 then (impl_kidsOk.l0 k x435005 (x435005.length : Int) 0 x434000 x434001 x434002 x435000 x435001 x435002 x435003 x435004 x435005) else (impl_kidsOk.j2 k x5 x6 x434000 x434001 x434002 x435000 x435001 x435002 x435003 x435004 x435005))))
def impl_kidsOk.l0 : Nat → List Int → Int → Int → List (S77) → List (S106) → List (S103) → Int → Int → ByteArray → ByteArray → ByteArray → List Int → Option (Bool)
 | 0, _, _, _, _, _, _, _, _, _, _, _, _ => none
 | k + 1, x35, x36, x37, x434000, x434001, x434002, x435000, x435001, x435002, x435003, x435004, x435005 => if x37 < x36 then (if 0 ≤ x37 then (if x37 < (x35.length : Int) then ((impl_isStatement.f x434000 x434001 x434002 (rd x35 x37)).bind fun t437 => (if t437 = true then (impl_kidsOk.l0 k x35 x36 (wrap64 (x37 + 1)) x434000 x434001 x434002 x435000 x435001 x435002 x435003 x435004 x435005) else (some false))) else (none)) else (none)) else ((impl_within.f (x435005.length : Int) 1 12).bind fun t438 => (some t438))
end
def impl_kidsOk.f (k : Nat) (l0_0 : List (S77)) (l0_1 : List (S106)) (l0_2 : List (S103)) (a1_0 : Int) (a1_1 : Int) (a1_2 : ByteArray) (a1_3 : ByteArray) (a1_4 : ByteArray) (l1_5 : List Int) : Option (Bool) := if a1_0 = 3 then (impl_kidsOk.j2 k 2 0 l0_0 l0_1 l0_2 a1_0 a1_1 a1_2 a1_3 a1_4 l1_5) else (if a1_0 = 4 then (impl_kidsOk.j0 k 0 0 a1_0 (a1_0 == 4) l0_0 l0_1 l0_2 a1_0 a1_1 a1_2 a1_3 a1_4 l1_5) else (if a1_0 = 5 then (impl_kidsOk.j0 k 0 0 a1_0 (a1_0 == 5) l0_0 l0_1 l0_2 a1_0 a1_1 a1_2 a1_3 a1_4 l1_5) else (if a1_0 = 11 then (impl_kidsOk.j0 k 0 0 a1_0 (a1_0 == 11) l0_0 l0_1 l0_2 a1_0 a1_1 a1_2 a1_3 a1_4 l1_5) else (if a1_0 = 14 then (impl_kidsOk.j0 k 0 0 a1_0 (a1_0 == 14) l0_0 l0_1 l0_2 a1_0 a1_1 a1_2 a1_3 a1_4 l1_5) else (impl_kidsOk.j0 k 0 0 a1_0 (a1_0 == 15) l0_0 l0_1 l0_2 a1_0 a1_1 a1_2 a1_3 a1_4 l1_5)))))
theorem impl_kidsOk.calls (k : Nat) (A0_0 : Option Addr) (c0_0 : Nat) (l0_0 : List (S77)) (A0_1 : Option Addr) (c0_1 : Nat) (l0_1 : List (S106)) (A0_2 : Option Addr) (c0_2 : Nat) (l0_2 : List (S103)) (a1_0 : Int) (a1_1 : Int) (a1_2 : ByteArray) (a1_3 : ByteArray) (a1_4 : ByteArray) (A1_5 : Option Addr) (c1_5 : Nat) (l1_5 : List Int) (r : Bool) (w : World) (hr0_0 : Kd.C k77 w A0_0 l0_0.length l0_0) (hc0_0 : l0_0.length ≤ c0_0) (hr0_1 : Kd.C k106 w A0_1 l0_1.length l0_1) (hc0_1 : l0_1.length ≤ c0_1) (hr0_2 : Kd.C k103 w A0_2 l0_2.length l0_2) (hc0_2 : l0_2.length ≤ c0_2) (hr1_5 : Kd.C (Kd.int .i64) w A1_5 l1_5.length l1_5) (hc1_5 : l1_5.length ≤ c1_5) (h : impl_kidsOk.f k l0_0 l0_1 l0_2 a1_0 a1_1 a1_2 a1_3 a1_4 l1_5 = some r) :
  Calls Try.prog 81 #[.agg #[.slice A0_0 l0_0.length c0_0, .slice A0_1 l0_1.length c0_1, .slice A0_2 l0_2.length c0_2], .agg #[.int .i64 a1_0, .int .i64 a1_1, .string a1_2, .string a1_3, .string a1_4, .slice A1_5 l1_5.length c1_5]] w fun e w' => e = .returned (.bool r) ∧ Below w.heap.size w w' := by
 have hu40 := Try.underlying40
 have hu77 := Try.underlying77
 have HR0_0 := Aside0.mk hr0_0
 have HC0_0 := Aside0.mk hc0_0
 clear hr0_0 hc0_0
 have HR0_1 := Aside0.mk hr0_1
 have HC0_1 := Aside0.mk hc0_1
 clear hr0_1 hc0_1
 have HR0_2 := Aside0.mk hr0_2
 have HC0_2 := Aside0.mk hc0_2
 clear hr0_2 hc0_2
 have HR1_5 := Aside0.mk hr1_5
 have HC1_5 := Aside0.mk hc1_5
 clear hr1_5 hc1_5
 have HB := Aside0.mk (Below.refl w.heap.size w)
 have H : (if a1_0 = 3 then (impl_kidsOk.j2 k 2 0 l0_0 l0_1 l0_2 a1_0 a1_1 a1_2 a1_3 a1_4 l1_5) else (if a1_0 = 4 then (impl_kidsOk.j0 k 0 0 a1_0 (a1_0 == 4) l0_0 l0_1 l0_2 a1_0 a1_1 a1_2 a1_3 a1_4 l1_5) else (if a1_0 = 5 then (impl_kidsOk.j0 k 0 0 a1_0 (a1_0 == 5) l0_0 l0_1 l0_2 a1_0 a1_1 a1_2 a1_3 a1_4 l1_5) else (if a1_0 = 11 then (impl_kidsOk.j0 k 0 0 a1_0 (a1_0 == 11) l0_0 l0_1 l0_2 a1_0 a1_1 a1_2 a1_3 a1_4 l1_5) else (if a1_0 = 14 then (impl_kidsOk.j0 k 0 0 a1_0 (a1_0 == 14) l0_0 l0_1 l0_2 a1_0 a1_1 a1_2 a1_3 a1_4 l1_5) else (impl_kidsOk.j0 k 0 0 a1_0 (a1_0 == 15) l0_0 l0_1 l0_2 a1_0 a1_1 a1_2 a1_3 a1_4 l1_5)))))) = some r := h
 clear h
 have HC3 := Aside0.mk H
 clear H
 go_enter Try.func81, Try.ntmps81
 go_upto_block 0 with (first | (refine Bv_ 2 #[.slice A0_0 l0_0.length c0_0, .slice A0_1 l0_1.length c0_1, .slice A0_2 l0_2.length c0_2] 40 ?_; intro gb433 hg w4 BK433 hb; have GW433 := Hg_ HB hg; replace HB := Hs_ HB hb; clear hb hg) | (refine Bv_ 3 #[.int .i64 a1_0, .int .i64 a1_1, .string a1_2, .string a1_3, .string a1_4, .slice A1_5 l1_5.length c1_5] 77 ?_; intro gb434 hg w5 BK434 hb; have GW434 := Hg_ HB hg; have NB433_434 := Bl_ BK433 hg; have NB434_433 := Bm_ NB433_434; replace BK433 := Bb_ BK433 hb; replace HB := Hs_ HB hb; clear hb hg; have hnb6 := NB434_433.out; have hnc6 := NB433_434.out; obtain ⟨hcz7_0, hcz7_1, hcz7_2, hcz7_3, hcz7_4, hcz7_5, hfz7_0, hfz7_1, hfz7_2, hfz7_3, hfz7_4, hfz7_5⟩ := Bc6_ BK434))
 repeat (go_quiet (first | (refine Bv_ 2 #[.slice A0_0 l0_0.length c0_0, .slice A0_1 l0_1.length c0_1, .slice A0_2 l0_2.length c0_2] 40 ?_; intro gb433 hg w4 BK433 hb; have GW433 := Hg_ HB hg; replace HB := Hs_ HB hb; clear hb hg) | (refine Bv_ 3 #[.int .i64 a1_0, .int .i64 a1_1, .string a1_2, .string a1_3, .string a1_4, .slice A1_5 l1_5.length c1_5] 77 ?_; intro gb434 hg w5 BK434 hb; have GW434 := Hg_ HB hg; have NB433_434 := Bl_ BK433 hg; have NB434_433 := Bm_ NB433_434; replace BK433 := Bb_ BK433 hb; replace HB := Hs_ HB hb; clear hb hg; have hnb6 := NB434_433.out; have hnc6 := NB433_434.out; obtain ⟨hcz7_0, hcz7_1, hcz7_2, hcz7_3, hcz7_4, hcz7_5, hfz7_0, hfz7_1, hfz7_2, hfz7_3, hfz7_4, hfz7_5⟩ := Bc6_ BK434)); go_upto_block 0 with (first | (refine Bv_ 2 #[.slice A0_0 l0_0.length c0_0, .slice A0_1 l0_1.length c0_1, .slice A0_2 l0_2.length c0_2] 40 ?_; intro gb433 hg w4 BK433 hb; have GW433 := Hg_ HB hg; replace HB := Hs_ HB hb; clear hb hg) | (refine Bv_ 3 #[.int .i64 a1_0, .int .i64 a1_1, .string a1_2, .string a1_3, .string a1_4, .slice A1_5 l1_5.length c1_5] 77 ?_; intro gb434 hg w5 BK434 hb; have GW434 := Hg_ HB hg; have NB433_434 := Bl_ BK433 hg; have NB434_433 := Bm_ NB433_434; replace BK433 := Bb_ BK433 hb; replace HB := Hs_ HB hb; clear hb hg; have hnb6 := NB434_433.out; have hnc6 := NB433_434.out; obtain ⟨hcz7_0, hcz7_1, hcz7_2, hcz7_3, hcz7_4, hcz7_5, hfz7_0, hfz7_1, hfz7_2, hfz7_3, hfz7_4, hfz7_5⟩ := Bc6_ BK434)))
 (try simp only [Act.put, List.setIfInBounds_toArray, List.set_cons_zero, List.set_cons_succ])
 go_cut [5, 6] (fun v5 v6 wc => ∃ (kq : Nat) (x5_2 : Int) (x6_2 : Int), v5 = .int .i64 x5_2 ∧ v6 = .int .i64 x6_2 ∧ Aside0 (impl_kidsOk.j2 kq x5_2 x6_2 l0_0 l0_1 l0_2 a1_0 a1_1 a1_2 a1_3 a1_4 l1_5 = some r) ∧ Aside0 (kq ≤ k) ∧ Aside0 (wc.heap[gb433]? = some (.cells #[(.slice A0_0 l0_0.length c0_0), (.slice A0_1 l0_1.length c0_1), (.slice A0_2 l0_2.length c0_2)] 40 (0, 0))) ∧ Aside0 (wc.heap[gb434]? = some (.cells #[.int .i64 a1_0, .int .i64 a1_1, .string a1_2, .string a1_3, .string a1_4, (.slice A1_5 l1_5.length c1_5)] 77 (0, 0))) ∧ Aside0 (Below w.heap.size w wc))
 case first =>
  have H := HC3.out
  clear HC3
  by_cases c8 : a1_0 = 3
  ·rw [if_pos c8] at H
   have c8b0 := beq_iff_eq.mpr c8
   have c8b1 := bne_eq_false_iff_eq.mpr c8
   clear c8
   (first | rw [c8b0] | (simp only [i64_w, i32_w]; rw [c8b0]) | skip)
   have H' := Aside0.mk H
   clear H
   go_wp2
   repeat (go_quiet (fail); try go_wp2)
   go_meet
   case rel => exact ⟨_, (2), (0), Rr_, Rr_, H', ⟨by first | omega | exact Nat.le_refl _⟩, ⟨Bq_ BK433⟩, ⟨Bq_ BK434⟩, ⟨Hf_ HB⟩⟩
  ·rw [if_neg c8] at H
   have c8b0 := beq_eq_false_iff_ne.mpr c8
   have c8b1 := bne_iff_ne.mpr c8
   (first | rw [c8b0] | (simp only [i64_w, i32_w]; rw [c8b0]) | skip)
   have HC9 := Aside0.mk H
   clear H
   go_upto_if 15 with (fail)
   repeat (go_quiet (fail); go_upto_if 15 with (fail))
   go_cut [15] (fun v15 wc => ∃ (kq : Nat) (x15_8 : Bool), v15 = .bool x15_8 ∧ Aside0 (impl_kidsOk.j0 kq 0 0 a1_0 x15_8 l0_0 l0_1 l0_2 a1_0 a1_1 a1_2 a1_3 a1_4 l1_5 = some r) ∧ Aside0 (kq ≤ k) ∧ Aside0 (wc.heap[gb433]? = some (.cells #[(.slice A0_0 l0_0.length c0_0), (.slice A0_1 l0_1.length c0_1), (.slice A0_2 l0_2.length c0_2)] 40 (0, 0))) ∧ Aside0 (wc.heap[gb434]? = some (.cells #[.int .i64 a1_0, .int .i64 a1_1, .string a1_2, .string a1_3, .string a1_4, (.slice A1_5 l1_5.length c1_5)] 77 (0, 0))) ∧ Aside0 (Below w.heap.size w wc))
   case first =>
    have H := HC9.out
    clear HC9
    by_cases c10 : a1_0 = 4
    ·rw [if_pos c10] at H
     have c10b0 := beq_iff_eq.mpr c10
     have c10b1 := bne_eq_false_iff_eq.mpr c10
     clear c10
     (first | rw [c10b0] | (simp only [i64_w, i32_w]; rw [c10b0]) | skip)
     have H' := Aside0.mk H
     clear H
     go_wp2
     repeat (go_quiet (fail); try go_wp2)
     go_meet
     case rel => exact ⟨_, ((a1_0 == 4)), Rr_, H', ⟨by first | omega | exact Nat.le_refl _⟩, ⟨Bq_ BK433⟩, ⟨Bq_ BK434⟩, ⟨Hf_ HB⟩⟩
    ·rw [if_neg c10] at H
     have c10b0 := beq_eq_false_iff_ne.mpr c10
     have c10b1 := bne_iff_ne.mpr c10
     (first | rw [c10b0] | (simp only [i64_w, i32_w]; rw [c10b0]) | skip)
     by_cases c11 : a1_0 = 5
     ·rw [if_pos c11] at H
      have c11b0 := beq_iff_eq.mpr c11
      have c11b1 := bne_eq_false_iff_eq.mpr c11
      clear c11
      have H' := Aside0.mk H
      clear H
      go_wp2
      repeat (go_quiet (fail); try go_wp2)
      go_meet
      case rel => exact ⟨_, ((a1_0 == 5)), Rr_, H', ⟨by first | omega | exact Nat.le_refl _⟩, ⟨Bq_ BK433⟩, ⟨Bq_ BK434⟩, ⟨Hf_ HB⟩⟩
     ·rw [if_neg c11] at H
      have c11b0 := beq_eq_false_iff_ne.mpr c11
      have c11b1 := bne_iff_ne.mpr c11
      by_cases c12 : a1_0 = 11
      ·rw [if_pos c12] at H
       have c12b0 := beq_iff_eq.mpr c12
       have c12b1 := bne_eq_false_iff_eq.mpr c12
       clear c12
       have H' := Aside0.mk H
       clear H
       go_wp2
       repeat (go_quiet (fail); try go_wp2)
       go_meet
       case rel => exact ⟨_, ((a1_0 == 11)), Rr_, H', ⟨by first | omega | exact Nat.le_refl _⟩, ⟨Bq_ BK433⟩, ⟨Bq_ BK434⟩, ⟨Hf_ HB⟩⟩
      ·rw [if_neg c12] at H
       have c12b0 := beq_eq_false_iff_ne.mpr c12
       have c12b1 := bne_iff_ne.mpr c12
       by_cases c13 : a1_0 = 14
       ·rw [if_pos c13] at H
        have c13b0 := beq_iff_eq.mpr c13
        have c13b1 := bne_eq_false_iff_eq.mpr c13
        clear c13
        have H' := Aside0.mk H
        clear H
        go_wp2
        repeat (go_quiet (fail); try go_wp2)
        go_meet
        case rel => exact ⟨_, ((a1_0 == 14)), Rr_, H', ⟨by first | omega | exact Nat.le_refl _⟩, ⟨Bq_ BK433⟩, ⟨Bq_ BK434⟩, ⟨Hf_ HB⟩⟩
       ·rw [if_neg c13] at H
        have c13b0 := beq_eq_false_iff_ne.mpr c13
        have c13b1 := bne_iff_ne.mpr c13
        have H' := Aside0.mk H
        clear H
        go_wp2
        repeat (go_quiet (fail); try go_wp2)
        go_meet
        case rel => exact ⟨_, ((a1_0 == 15)), Rr_, H', ⟨by first | omega | exact Nat.le_refl _⟩, ⟨Bq_ BK433⟩, ⟨Bq_ BK434⟩, ⟨Hf_ HB⟩⟩
   case rest =>
    clear HC9
    clear c8 c8b0 c8b1 hcz7_0 hcz7_1 hcz7_2 hcz7_3 hcz7_4 hcz7_5 hfz7_0 hfz7_1 hfz7_2 hfz7_3 hfz7_4 hfz7_5
    obtain ⟨kq, x15_8, rfl, HA, HJ8, BK433, BK434, HB⟩ := hcut
    cases kq with
    | zero => exact absurd HA.out (by simp [impl_kidsOk.j0])
    | succ kj8 =>
     have H := HA.out
     clear HA
     simp only [impl_kidsOk.j0] at H
     by_cases c14 : x15_8 = true
     ·subst c14
      rw [if_pos rfl] at H
      have H' := Aside0.mk H
      clear H
      go_wp2
      repeat (go_quiet (fail); try go_wp2)
      go_meet
      case rel => exact ⟨_, (1), (0), Rr_, Rr_, H', ⟨by have := HJ8.out; first | omega | exact Nat.le_refl _⟩, ⟨Bq_ BK433⟩, ⟨Bq_ BK434⟩, ⟨Hf_ HB⟩⟩
     ·replace c14 := Bool.eq_false_iff.mpr c14
      subst c14
      rw [if_neg Ff_] at H
      by_cases c15 : a1_0 = 12
      ·rw [if_pos c15] at H
       have c15b0 := beq_iff_eq.mpr c15
       have c15b1 := bne_eq_false_iff_eq.mpr c15
       clear c15
       obtain ⟨t435, A16, H⟩ := Bo_ H
       by_cases c17 : t435 = true
       ·subst c17
        rw [if_pos rfl] at H
        have H' := Aside0.mk H
        clear H
        have hnb18 := NB434_433.out
        have hnc18 := NB433_434.out
        obtain ⟨hcz19_0, hcz19_1, hcz19_2, hcz19_3, hcz19_4, hcz19_5, hfz19_0, hfz19_1, hfz19_2, hfz19_3, hfz19_4, hfz19_5⟩ := Bc6_ BK434
        go_wp2_with (first | (go_at_call 79; (with_reducible refine (impl_within.calls (wrap64 ((l1_5.length : Int) - 1)) 1 2 true _ A16.out).mono ?_); rintro e w' ⟨rfl, ⟨nd, rfl⟩⟩; (try first | exact ⟨rfl, _, World.drewN_drewN _ _ _⟩ | exact ⟨rfl, _, Eq.trans (World.drewN_drewN _ _ _) (congrArg (World.drewN _) (Nat.add_assoc _ _ _))⟩)))
        repeat (go_quiet (first | (go_at_call 79; (with_reducible refine (impl_within.calls (wrap64 ((l1_5.length : Int) - 1)) 1 2 true _ A16.out).mono ?_); rintro e w' ⟨rfl, ⟨nd, rfl⟩⟩; (try first | exact ⟨rfl, _, World.drewN_drewN _ _ _⟩ | exact ⟨rfl, _, Eq.trans (World.drewN_drewN _ _ _) (congrArg (World.drewN _) (Nat.add_assoc _ _ _))⟩))); try go_wp2_with (first | (go_at_call 79; (with_reducible refine (impl_within.calls (wrap64 ((l1_5.length : Int) - 1)) 1 2 true _ A16.out).mono ?_); rintro e w' ⟨rfl, ⟨nd, rfl⟩⟩; (try first | exact ⟨rfl, _, World.drewN_drewN _ _ _⟩ | exact ⟨rfl, _, Eq.trans (World.drewN_drewN _ _ _) (congrArg (World.drewN _) (Nat.add_assoc _ _ _))⟩))))
        go_meet
        case rel => exact ⟨_, (1), (wrap64 ((l1_5.length : Int) - 1)), Rr_, Rr_, H', ⟨by have := HJ8.out; first | omega | exact Nat.le_refl _⟩, ⟨Bq_ BK433⟩, ⟨Bq_ BK434⟩, ⟨Hf_ HB⟩⟩
       ·replace c17 := Bool.eq_false_iff.mpr c17
        subst c17
        rw [if_neg Ff_] at H
        obtain rfl := Option.some.inj H
        have hnb20 := NB434_433.out
        have hnc20 := NB433_434.out
        obtain ⟨hcz21_0, hcz21_1, hcz21_2, hcz21_3, hcz21_4, hcz21_5, hfz21_0, hfz21_1, hfz21_2, hfz21_3, hfz21_4, hfz21_5⟩ := Bc6_ BK434
        go_wp2_with (first | (go_at_call 79; (with_reducible refine (impl_within.calls (wrap64 ((l1_5.length : Int) - 1)) 1 2 false _ A16.out).mono ?_); rintro e w' ⟨rfl, ⟨nd, rfl⟩⟩; (try first | exact ⟨rfl, _, World.drewN_drewN _ _ _⟩ | exact ⟨rfl, _, Eq.trans (World.drewN_drewN _ _ _) (congrArg (World.drewN _) (Nat.add_assoc _ _ _))⟩)))
        repeat (go_quiet (first | (go_at_call 79; (with_reducible refine (impl_within.calls (wrap64 ((l1_5.length : Int) - 1)) 1 2 false _ A16.out).mono ?_); rintro e w' ⟨rfl, ⟨nd, rfl⟩⟩; (try first | exact ⟨rfl, _, World.drewN_drewN _ _ _⟩ | exact ⟨rfl, _, Eq.trans (World.drewN_drewN _ _ _) (congrArg (World.drewN _) (Nat.add_assoc _ _ _))⟩))); try go_wp2_with (first | (go_at_call 79; (with_reducible refine (impl_within.calls (wrap64 ((l1_5.length : Int) - 1)) 1 2 false _ A16.out).mono ?_); rintro e w' ⟨rfl, ⟨nd, rfl⟩⟩; (try first | exact ⟨rfl, _, World.drewN_drewN _ _ _⟩ | exact ⟨rfl, _, Eq.trans (World.drewN_drewN _ _ _) (congrArg (World.drewN _) (Nat.add_assoc _ _ _))⟩))))
        go_ret
        exact ⟨Re_, Hf_ HB⟩
      ·rw [if_neg c15] at H
       have c15b0 := beq_eq_false_iff_ne.mpr c15
       have c15b1 := bne_iff_ne.mpr c15
       by_cases c22 : a1_0 = 13
       ·rw [if_pos c22] at H
        have c22b0 := beq_iff_eq.mpr c22
        have c22b1 := bne_eq_false_iff_eq.mpr c22
        clear c22
        have H' := Aside0.mk H
        clear H
        go_wp2
        repeat (go_quiet (fail); try go_wp2)
        go_meet
        case rel => exact ⟨_, (1), (1), Rr_, Rr_, H', ⟨by have := HJ8.out; first | omega | exact Nat.le_refl _⟩, ⟨Bq_ BK433⟩, ⟨Bq_ BK434⟩, ⟨Hf_ HB⟩⟩
       ·rw [if_neg c22] at H
        have c22b0 := beq_eq_false_iff_ne.mpr c22
        have c22b1 := bne_iff_ne.mpr c22
        by_cases c23 : a1_0 = 20
        ·rw [if_pos c23] at H
         have c23b0 := beq_iff_eq.mpr c23
         have c23b1 := bne_eq_false_iff_eq.mpr c23
         clear c23
         have H' := Aside0.mk H
         clear H
         have hnb24 := NB434_433.out
         have hnc24 := NB433_434.out
         obtain ⟨hcz25_0, hcz25_1, hcz25_2, hcz25_3, hcz25_4, hcz25_5, hfz25_0, hfz25_1, hfz25_2, hfz25_3, hfz25_4, hfz25_5⟩ := Bc6_ BK434
         go_wp2
         repeat (go_quiet (fail); try go_wp2)
         go_loopg [37] kj8 (fun kq v37 w' => ∃ (x37_2 : Int), v37 = .int .i64 x37_2 ∧ Aside0 (impl_kidsOk.l0 kq l1_5 (l1_5.length : Int) x37_2 l0_0 l0_1 l0_2 a1_0 a1_1 a1_2 a1_3 a1_4 l1_5 = some r) ∧ Aside0 (kq ≤ kj8) ∧ Aside0 (w'.heap[gb433]? = some (.cells #[(.slice A0_0 l0_0.length c0_0), (.slice A0_1 l0_1.length c0_1), (.slice A0_2 l0_2.length c0_2)] 40 (0, 0))) ∧ Aside0 (w'.heap[gb434]? = some (.cells #[.int .i64 a1_0, .int .i64 a1_1, .string a1_2, .string a1_3, .string a1_4, (.slice A1_5 l1_5.length c1_5)] 77 (0, 0))) ∧ Aside0 (Below w.heap.size w w'))
         case atStart => exact ⟨(0), Rr_, H', ⟨Nat.le_refl _⟩, ⟨Bq_ BK433⟩, ⟨Bq_ BK434⟩, ⟨Hf_ HB⟩⟩
         case round =>
          clear H'
          clear c15 c15b0 c15b1 c22 c22b0 c22b1 c23b0 c23b1 hcz25_0 hcz25_1 hcz25_2 hcz25_3 hcz25_4 hcz25_5 hfz25_0 hfz25_1 hfz25_2 hfz25_3 hfz25_4 hfz25_5
          obtain ⟨x37_2, rfl, HA, HK2, BK433, BK434, HB⟩ := hrel
          cases gk with
          | zero => exact absurd HA.out (by simp [impl_kidsOk.l0])
          | succ k2 =>
           have H := HA.out
           clear HA
           simp only [impl_kidsOk.l0] at H
           by_cases c26 : x37_2 < (l1_5.length : Int)
           ·rw [if_pos c26] at H
            have c26b0 := decide_eq_true c26
            clear c26
            by_cases c27 : 0 ≤ x37_2
            ·rw [if_pos c27] at H
             have c27b0 := decide_eq_true c27
             clear c27
             by_cases c28 : x37_2 < (l1_5.length : Int)
             ·rw [if_pos c28] at H
              have c28b0 := decide_eq_true c28
              clear c28
              obtain ⟨t437, A29, H⟩ := Bo_ H
              by_cases c30 : t437 = true
              ·subst c30
               rw [if_pos rfl] at H
               have H' := Aside0.mk H
               clear H
               have p436 : 0 ≤ (x37_2 : Int) := of_decide_eq_true As_
               have q436 : x37_2 < (l1_5.length : Int) := of_decide_eq_true As_
               obtain ⟨ad436, e436, hx436_0⟩ := Kd.at_int HR1_5.out x37_2 p436 q436
               cases e436
               replace hx436_0 := Bw_ hx436_0 HB
               replace p436 := eq_true p436
               replace q436 := eq_true q436
               have hnb31 := NB433_434.out
               have hnc31 := NB434_433.out
               obtain ⟨hcz32_0, hcz32_1, hcz32_2, hfz32_0, hfz32_1, hfz32_2⟩ := Bc3_ BK433
               go_wp2_with (first | (go_at_call 128; (refine (impl_isStatement.calls _ _ l0_0 _ _ l0_1 _ _ l0_2 (rd l1_5 x37_2) true _ (Sc_ HR0_0 HB) HC0_0.out (Sc_ HR0_1 HB) HC0_1.out (Sc_ HR0_2 HB) HC0_2.out A29.out).mono ?_); rintro e w33 ⟨rfl, hb⟩; replace BK433 := Bb_ BK433 hb; replace BK434 := Bb_ BK434 hb; replace HB := Hs_ HB hb; clear hb))
               repeat (go_quiet (first | (go_at_call 128; (refine (impl_isStatement.calls _ _ l0_0 _ _ l0_1 _ _ l0_2 (rd l1_5 x37_2) true _ (Sc_ HR0_0 HB) HC0_0.out (Sc_ HR0_1 HB) HC0_1.out (Sc_ HR0_2 HB) HC0_2.out A29.out).mono ?_); rintro e w33 ⟨rfl, hb⟩; replace BK433 := Bb_ BK433 hb; replace BK434 := Bb_ BK434 hb; replace HB := Hs_ HB hb; clear hb)); try go_wp2_with (first | (go_at_call 128; (refine (impl_isStatement.calls _ _ l0_0 _ _ l0_1 _ _ l0_2 (rd l1_5 x37_2) true _ (Sc_ HR0_0 HB) HC0_0.out (Sc_ HR0_1 HB) HC0_1.out (Sc_ HR0_2 HB) HC0_2.out A29.out).mono ?_); rintro e w33 ⟨rfl, hb⟩; replace BK433 := Bb_ BK433 hb; replace BK434 := Bb_ BK434 hb; replace HB := Hs_ HB hb; clear hb)))
               go_roundg k2
               case measure => have := HJ8.out; have := HK2.out; omega
               case rel => exact ⟨(wrap64 (x37_2 + 1)), Rr_, H', ⟨by have := HJ8.out; have := HK2.out; omega⟩, ⟨Bq_ BK433⟩, ⟨Bq_ BK434⟩, ⟨Hf_ HB⟩⟩
              ·replace c30 := Bool.eq_false_iff.mpr c30
               subst c30
               rw [if_neg Ff_] at H
               obtain rfl := Option.some.inj H
               have p436 : 0 ≤ (x37_2 : Int) := of_decide_eq_true As_
               have q436 : x37_2 < (l1_5.length : Int) := of_decide_eq_true As_
               obtain ⟨ad436, e436, hx436_0⟩ := Kd.at_int HR1_5.out x37_2 p436 q436
               cases e436
               replace hx436_0 := Bw_ hx436_0 HB
               replace p436 := eq_true p436
               replace q436 := eq_true q436
               have hnb34 := NB433_434.out
               have hnc34 := NB434_433.out
               obtain ⟨hcz35_0, hcz35_1, hcz35_2, hfz35_0, hfz35_1, hfz35_2⟩ := Bc3_ BK433
               go_wp2_with (first | (go_at_call 128; (refine (impl_isStatement.calls _ _ l0_0 _ _ l0_1 _ _ l0_2 (rd l1_5 x37_2) false _ (Sc_ HR0_0 HB) HC0_0.out (Sc_ HR0_1 HB) HC0_1.out (Sc_ HR0_2 HB) HC0_2.out A29.out).mono ?_); rintro e w36 ⟨rfl, hb⟩; replace BK433 := Bb_ BK433 hb; replace BK434 := Bb_ BK434 hb; replace HB := Hs_ HB hb; clear hb))
               repeat (go_quiet (first | (go_at_call 128; (refine (impl_isStatement.calls _ _ l0_0 _ _ l0_1 _ _ l0_2 (rd l1_5 x37_2) false _ (Sc_ HR0_0 HB) HC0_0.out (Sc_ HR0_1 HB) HC0_1.out (Sc_ HR0_2 HB) HC0_2.out A29.out).mono ?_); rintro e w36 ⟨rfl, hb⟩; replace BK433 := Bb_ BK433 hb; replace BK434 := Bb_ BK434 hb; replace HB := Hs_ HB hb; clear hb)); try go_wp2_with (first | (go_at_call 128; (refine (impl_isStatement.calls _ _ l0_0 _ _ l0_1 _ _ l0_2 (rd l1_5 x37_2) false _ (Sc_ HR0_0 HB) HC0_0.out (Sc_ HR0_1 HB) HC0_1.out (Sc_ HR0_2 HB) HC0_2.out A29.out).mono ?_); rintro e w36 ⟨rfl, hb⟩; replace BK433 := Bb_ BK433 hb; replace BK434 := Bb_ BK434 hb; replace HB := Hs_ HB hb; clear hb)))
               go_ret
               exact ⟨Re_, Hf_ HB⟩
             ·rw [if_neg c28] at H
              exact absurd H (by simp)
            ·rw [if_neg c27] at H
             exact absurd H (by simp)
           ·rw [if_neg c26] at H
            have c26b0 := decide_eq_false c26
            clear c26
            obtain ⟨t438, A37, H⟩ := Bo_ H
            obtain rfl := Option.some.inj H
            have hnb38 := NB434_433.out
            have hnc38 := NB433_434.out
            obtain ⟨hcz39_0, hcz39_1, hcz39_2, hcz39_3, hcz39_4, hcz39_5, hfz39_0, hfz39_1, hfz39_2, hfz39_3, hfz39_4, hfz39_5⟩ := Bc6_ BK434
            go_wp2_with (first | (go_at_call 79; (with_reducible refine (impl_within.calls (l1_5.length : Int) 1 12 t438 _ A37.out).mono ?_); rintro e w' ⟨rfl, ⟨nd, rfl⟩⟩; (try first | exact ⟨rfl, _, World.drewN_drewN _ _ _⟩ | exact ⟨rfl, _, Eq.trans (World.drewN_drewN _ _ _) (congrArg (World.drewN _) (Nat.add_assoc _ _ _))⟩)))
            repeat (go_quiet (first | (go_at_call 79; (with_reducible refine (impl_within.calls (l1_5.length : Int) 1 12 t438 _ A37.out).mono ?_); rintro e w' ⟨rfl, ⟨nd, rfl⟩⟩; (try first | exact ⟨rfl, _, World.drewN_drewN _ _ _⟩ | exact ⟨rfl, _, Eq.trans (World.drewN_drewN _ _ _) (congrArg (World.drewN _) (Nat.add_assoc _ _ _))⟩))); try go_wp2_with (first | (go_at_call 79; (with_reducible refine (impl_within.calls (l1_5.length : Int) 1 12 t438 _ A37.out).mono ?_); rintro e w' ⟨rfl, ⟨nd, rfl⟩⟩; (try first | exact ⟨rfl, _, World.drewN_drewN _ _ _⟩ | exact ⟨rfl, _, Eq.trans (World.drewN_drewN _ _ _) (congrArg (World.drewN _) (Nat.add_assoc _ _ _))⟩))))
            go_ret
            exact ⟨Re_, Hf_ HB⟩
        ·rw [if_neg c23] at H
         have c23b0 := beq_eq_false_iff_ne.mpr c23
         have c23b1 := bne_iff_ne.mpr c23
         have H' := Aside0.mk H
         clear H
         go_wp2
         repeat (go_quiet (fail); try go_wp2)
         go_meet
         case rel => exact ⟨_, (0), (0), Rr_, Rr_, H', ⟨by have := HJ8.out; first | omega | exact Nat.le_refl _⟩, ⟨Bq_ BK433⟩, ⟨Bq_ BK434⟩, ⟨Hf_ HB⟩⟩
 case rest =>
  clear HC3
  clear hcz7_0 hcz7_1 hcz7_2 hcz7_3 hcz7_4 hcz7_5 hfz7_0 hfz7_1 hfz7_2 hfz7_3 hfz7_4 hfz7_5
  obtain ⟨kq, x5_2, x6_2, rfl, rfl, HA, HJ2, BK433, BK434, HB⟩ := hcut
  cases kq with
  | zero => exact absurd HA.out (by simp [impl_kidsOk.j2])
  | succ kj2 =>
   have H := HA.out
   clear HA
   simp only [impl_kidsOk.j2] at H
   by_cases c40 : (l1_5.length : Int) = (wrap64 (x5_2 + x6_2))
   ·rw [if_pos c40] at H
    have c40b0 := beq_iff_eq.mpr c40
    have c40b1 := bne_eq_false_iff_eq.mpr c40
    clear c40
    have H' := Aside0.mk H
    clear H
    have hnb41 := NB434_433.out
    have hnc41 := NB433_434.out
    obtain ⟨hcz42_0, hcz42_1, hcz42_2, hcz42_3, hcz42_4, hcz42_5, hfz42_0, hfz42_1, hfz42_2, hfz42_3, hfz42_4, hfz42_5⟩ := Bc6_ BK434
    go_wp2
    repeat (go_quiet (fail); try go_wp2)
    go_loopg [60] kj2 (fun kq v60 w' => ∃ (x60_2 : Int), v60 = .int .i64 x60_2 ∧ Aside0 (impl_kidsOk.l1 kq x5_2 l1_5 (l1_5.length : Int) x60_2 l0_0 l0_1 l0_2 = some r) ∧ Aside0 (kq ≤ kj2) ∧ Aside0 (w'.heap[gb433]? = some (.cells #[(.slice A0_0 l0_0.length c0_0), (.slice A0_1 l0_1.length c0_1), (.slice A0_2 l0_2.length c0_2)] 40 (0, 0))) ∧ Aside0 (w'.heap[gb434]? = some (.cells #[.int .i64 a1_0, .int .i64 a1_1, .string a1_2, .string a1_3, .string a1_4, (.slice A1_5 l1_5.length c1_5)] 77 (0, 0))) ∧ Aside0 (Below w.heap.size w w'))
    case atStart => exact ⟨(0), Rr_, H', ⟨Nat.le_refl _⟩, ⟨Bq_ BK433⟩, ⟨Bq_ BK434⟩, ⟨Hf_ HB⟩⟩
    case round =>
     clear H'
     clear c40b0 c40b1 hcz42_0 hcz42_1 hcz42_2 hcz42_3 hcz42_4 hcz42_5 hfz42_0 hfz42_1 hfz42_2 hfz42_3 hfz42_4 hfz42_5
     obtain ⟨x60_2, rfl, HA, HK2, BK433, BK434, HB⟩ := hrel
     cases gk with
     | zero => exact absurd HA.out (by simp [impl_kidsOk.l1])
     | succ k2 =>
      have H := HA.out
      clear HA
      simp only [impl_kidsOk.l1] at H
      by_cases c43 : x60_2 < (l1_5.length : Int)
      ·rw [if_pos c43] at H
       have c43b0 := decide_eq_true c43
       clear c43
       by_cases c44 : 0 ≤ x60_2
       ·rw [if_pos c44] at H
        have c44b0 := decide_eq_true c44
        clear c44
        by_cases c45 : x60_2 < (l1_5.length : Int)
        ·rw [if_pos c45] at H
         have c45b0 := decide_eq_true c45
         clear c45
         by_cases c46 : x60_2 < x5_2
         ·rw [if_pos c46] at H
          have c46b0 := decide_eq_true c46
          clear c46
          obtain ⟨t440, A47, H⟩ := Bo_ H
          by_cases c48 : t440 = true
          ·subst c48
           rw [if_pos rfl] at H
           by_cases c49 : x60_2 ≥ x5_2
           ·rw [if_pos c49] at H
            have c49b0 : decide (x5_2 ≤ x60_2) = true := decide_eq_true c49
            clear c49
            obtain ⟨t441, A50, H⟩ := Bo_ H
            by_cases c51 : t441 = true
            ·subst c51
             rw [if_pos rfl] at H
             have H' := Aside0.mk H
             clear H
             have p439 : 0 ≤ (x60_2 : Int) := of_decide_eq_true As_
             have q439 : x60_2 < (l1_5.length : Int) := of_decide_eq_true As_
             obtain ⟨ad439, e439, hx439_0⟩ := Kd.at_int HR1_5.out x60_2 p439 q439
             cases e439
             replace hx439_0 := Bw_ hx439_0 HB
             replace p439 := eq_true p439
             replace q439 := eq_true q439
             have hnb52 := NB433_434.out
             have hnc52 := NB434_433.out
             obtain ⟨hcz53_0, hcz53_1, hcz53_2, hfz53_0, hfz53_1, hfz53_2⟩ := Bc3_ BK433
             go_wp2_with (first | (go_at_call 102; (refine (impl_isValue.calls _ _ l0_0 _ _ l0_1 _ _ l0_2 (rd l1_5 x60_2) true _ (Sc_ HR0_0 HB) HC0_0.out (Sc_ HR0_1 HB) HC0_1.out (Sc_ HR0_2 HB) HC0_2.out A47.out).mono ?_); rintro e w54 ⟨rfl, hb⟩; replace BK433 := Bb_ BK433 hb; replace BK434 := Bb_ BK434 hb; replace HB := Hs_ HB hb; clear hb; obtain ⟨hcz55_0, hcz55_1, hcz55_2, hfz55_0, hfz55_1, hfz55_2⟩ := Bc3_ BK433) | (go_at_call 96; (refine (impl_isBlock.calls _ _ l0_0 _ _ l0_1 _ _ l0_2 (rd l1_5 x60_2) true _ (Sc_ HR0_0 HB) HC0_0.out (Sc_ HR0_1 HB) HC0_1.out (Sc_ HR0_2 HB) HC0_2.out A50.out).mono ?_); rintro e w56 ⟨rfl, hb⟩; replace BK433 := Bb_ BK433 hb; replace BK434 := Bb_ BK434 hb; replace HB := Hs_ HB hb; clear hb))
             repeat (go_quiet (first | (go_at_call 102; (refine (impl_isValue.calls _ _ l0_0 _ _ l0_1 _ _ l0_2 (rd l1_5 x60_2) true _ (Sc_ HR0_0 HB) HC0_0.out (Sc_ HR0_1 HB) HC0_1.out (Sc_ HR0_2 HB) HC0_2.out A47.out).mono ?_); rintro e w54 ⟨rfl, hb⟩; replace BK433 := Bb_ BK433 hb; replace BK434 := Bb_ BK434 hb; replace HB := Hs_ HB hb; clear hb; obtain ⟨hcz55_0, hcz55_1, hcz55_2, hfz55_0, hfz55_1, hfz55_2⟩ := Bc3_ BK433) | (go_at_call 96; (refine (impl_isBlock.calls _ _ l0_0 _ _ l0_1 _ _ l0_2 (rd l1_5 x60_2) true _ (Sc_ HR0_0 HB) HC0_0.out (Sc_ HR0_1 HB) HC0_1.out (Sc_ HR0_2 HB) HC0_2.out A50.out).mono ?_); rintro e w56 ⟨rfl, hb⟩; replace BK433 := Bb_ BK433 hb; replace BK434 := Bb_ BK434 hb; replace HB := Hs_ HB hb; clear hb)); try go_wp2_with (first | (go_at_call 102; (refine (impl_isValue.calls _ _ l0_0 _ _ l0_1 _ _ l0_2 (rd l1_5 x60_2) true _ (Sc_ HR0_0 HB) HC0_0.out (Sc_ HR0_1 HB) HC0_1.out (Sc_ HR0_2 HB) HC0_2.out A47.out).mono ?_); rintro e w54 ⟨rfl, hb⟩; replace BK433 := Bb_ BK433 hb; replace BK434 := Bb_ BK434 hb; replace HB := Hs_ HB hb; clear hb; obtain ⟨hcz55_0, hcz55_1, hcz55_2, hfz55_0, hfz55_1, hfz55_2⟩ := Bc3_ BK433) | (go_at_call 96; (refine (impl_isBlock.calls _ _ l0_0 _ _ l0_1 _ _ l0_2 (rd l1_5 x60_2) true _ (Sc_ HR0_0 HB) HC0_0.out (Sc_ HR0_1 HB) HC0_1.out (Sc_ HR0_2 HB) HC0_2.out A50.out).mono ?_); rintro e w56 ⟨rfl, hb⟩; replace BK433 := Bb_ BK433 hb; replace BK434 := Bb_ BK434 hb; replace HB := Hs_ HB hb; clear hb)))
             go_roundg k2
             case measure => have := HJ2.out; have := HK2.out; omega
             case rel => exact ⟨(wrap64 (x60_2 + 1)), Rr_, H', ⟨by have := HJ2.out; have := HK2.out; omega⟩, ⟨Bq_ BK433⟩, ⟨Bq_ BK434⟩, ⟨Hf_ HB⟩⟩
            ·replace c51 := Bool.eq_false_iff.mpr c51
             subst c51
             rw [if_neg Ff_] at H
             obtain rfl := Option.some.inj H
             have p439 : 0 ≤ (x60_2 : Int) := of_decide_eq_true As_
             have q439 : x60_2 < (l1_5.length : Int) := of_decide_eq_true As_
             obtain ⟨ad439, e439, hx439_0⟩ := Kd.at_int HR1_5.out x60_2 p439 q439
             cases e439
             replace hx439_0 := Bw_ hx439_0 HB
             replace p439 := eq_true p439
             replace q439 := eq_true q439
             have hnb57 := NB433_434.out
             have hnc57 := NB434_433.out
             obtain ⟨hcz58_0, hcz58_1, hcz58_2, hfz58_0, hfz58_1, hfz58_2⟩ := Bc3_ BK433
             go_wp2_with (first | (go_at_call 102; (refine (impl_isValue.calls _ _ l0_0 _ _ l0_1 _ _ l0_2 (rd l1_5 x60_2) true _ (Sc_ HR0_0 HB) HC0_0.out (Sc_ HR0_1 HB) HC0_1.out (Sc_ HR0_2 HB) HC0_2.out A47.out).mono ?_); rintro e w59 ⟨rfl, hb⟩; replace BK433 := Bb_ BK433 hb; replace BK434 := Bb_ BK434 hb; replace HB := Hs_ HB hb; clear hb; obtain ⟨hcz60_0, hcz60_1, hcz60_2, hfz60_0, hfz60_1, hfz60_2⟩ := Bc3_ BK433) | (go_at_call 96; (refine (impl_isBlock.calls _ _ l0_0 _ _ l0_1 _ _ l0_2 (rd l1_5 x60_2) false _ (Sc_ HR0_0 HB) HC0_0.out (Sc_ HR0_1 HB) HC0_1.out (Sc_ HR0_2 HB) HC0_2.out A50.out).mono ?_); rintro e w61 ⟨rfl, hb⟩; replace BK433 := Bb_ BK433 hb; replace BK434 := Bb_ BK434 hb; replace HB := Hs_ HB hb; clear hb))
             repeat (go_quiet (first | (go_at_call 102; (refine (impl_isValue.calls _ _ l0_0 _ _ l0_1 _ _ l0_2 (rd l1_5 x60_2) true _ (Sc_ HR0_0 HB) HC0_0.out (Sc_ HR0_1 HB) HC0_1.out (Sc_ HR0_2 HB) HC0_2.out A47.out).mono ?_); rintro e w59 ⟨rfl, hb⟩; replace BK433 := Bb_ BK433 hb; replace BK434 := Bb_ BK434 hb; replace HB := Hs_ HB hb; clear hb; obtain ⟨hcz60_0, hcz60_1, hcz60_2, hfz60_0, hfz60_1, hfz60_2⟩ := Bc3_ BK433) | (go_at_call 96; (refine (impl_isBlock.calls _ _ l0_0 _ _ l0_1 _ _ l0_2 (rd l1_5 x60_2) false _ (Sc_ HR0_0 HB) HC0_0.out (Sc_ HR0_1 HB) HC0_1.out (Sc_ HR0_2 HB) HC0_2.out A50.out).mono ?_); rintro e w61 ⟨rfl, hb⟩; replace BK433 := Bb_ BK433 hb; replace BK434 := Bb_ BK434 hb; replace HB := Hs_ HB hb; clear hb)); try go_wp2_with (first | (go_at_call 102; (refine (impl_isValue.calls _ _ l0_0 _ _ l0_1 _ _ l0_2 (rd l1_5 x60_2) true _ (Sc_ HR0_0 HB) HC0_0.out (Sc_ HR0_1 HB) HC0_1.out (Sc_ HR0_2 HB) HC0_2.out A47.out).mono ?_); rintro e w59 ⟨rfl, hb⟩; replace BK433 := Bb_ BK433 hb; replace BK434 := Bb_ BK434 hb; replace HB := Hs_ HB hb; clear hb; obtain ⟨hcz60_0, hcz60_1, hcz60_2, hfz60_0, hfz60_1, hfz60_2⟩ := Bc3_ BK433) | (go_at_call 96; (refine (impl_isBlock.calls _ _ l0_0 _ _ l0_1 _ _ l0_2 (rd l1_5 x60_2) false _ (Sc_ HR0_0 HB) HC0_0.out (Sc_ HR0_1 HB) HC0_1.out (Sc_ HR0_2 HB) HC0_2.out A50.out).mono ?_); rintro e w61 ⟨rfl, hb⟩; replace BK433 := Bb_ BK433 hb; replace BK434 := Bb_ BK434 hb; replace HB := Hs_ HB hb; clear hb)))
             go_ret
             exact ⟨Re_, Hf_ HB⟩
           ·rw [if_neg c49] at H
            have c49b0 : decide (x5_2 ≤ x60_2) = false := decide_eq_false c49
            clear c49
            have H' := Aside0.mk H
            clear H
            have p439 : 0 ≤ (x60_2 : Int) := of_decide_eq_true As_
            have q439 : x60_2 < (l1_5.length : Int) := of_decide_eq_true As_
            obtain ⟨ad439, e439, hx439_0⟩ := Kd.at_int HR1_5.out x60_2 p439 q439
            cases e439
            replace hx439_0 := Bw_ hx439_0 HB
            replace p439 := eq_true p439
            replace q439 := eq_true q439
            have hnb62 := NB433_434.out
            have hnc62 := NB434_433.out
            obtain ⟨hcz63_0, hcz63_1, hcz63_2, hfz63_0, hfz63_1, hfz63_2⟩ := Bc3_ BK433
            go_wp2_with (first | (go_at_call 102; (refine (impl_isValue.calls _ _ l0_0 _ _ l0_1 _ _ l0_2 (rd l1_5 x60_2) true _ (Sc_ HR0_0 HB) HC0_0.out (Sc_ HR0_1 HB) HC0_1.out (Sc_ HR0_2 HB) HC0_2.out A47.out).mono ?_); rintro e w64 ⟨rfl, hb⟩; replace BK433 := Bb_ BK433 hb; replace BK434 := Bb_ BK434 hb; replace HB := Hs_ HB hb; clear hb))
            repeat (go_quiet (first | (go_at_call 102; (refine (impl_isValue.calls _ _ l0_0 _ _ l0_1 _ _ l0_2 (rd l1_5 x60_2) true _ (Sc_ HR0_0 HB) HC0_0.out (Sc_ HR0_1 HB) HC0_1.out (Sc_ HR0_2 HB) HC0_2.out A47.out).mono ?_); rintro e w64 ⟨rfl, hb⟩; replace BK433 := Bb_ BK433 hb; replace BK434 := Bb_ BK434 hb; replace HB := Hs_ HB hb; clear hb)); try go_wp2_with (first | (go_at_call 102; (refine (impl_isValue.calls _ _ l0_0 _ _ l0_1 _ _ l0_2 (rd l1_5 x60_2) true _ (Sc_ HR0_0 HB) HC0_0.out (Sc_ HR0_1 HB) HC0_1.out (Sc_ HR0_2 HB) HC0_2.out A47.out).mono ?_); rintro e w64 ⟨rfl, hb⟩; replace BK433 := Bb_ BK433 hb; replace BK434 := Bb_ BK434 hb; replace HB := Hs_ HB hb; clear hb)))
            go_roundg k2
            case measure => have := HJ2.out; have := HK2.out; omega
            case rel => exact ⟨(wrap64 (x60_2 + 1)), Rr_, H', ⟨by have := HJ2.out; have := HK2.out; omega⟩, ⟨Bq_ BK433⟩, ⟨Bq_ BK434⟩, ⟨Hf_ HB⟩⟩
          ·replace c48 := Bool.eq_false_iff.mpr c48
           subst c48
           rw [if_neg Ff_] at H
           obtain rfl := Option.some.inj H
           have p439 : 0 ≤ (x60_2 : Int) := of_decide_eq_true As_
           have q439 : x60_2 < (l1_5.length : Int) := of_decide_eq_true As_
           obtain ⟨ad439, e439, hx439_0⟩ := Kd.at_int HR1_5.out x60_2 p439 q439
           cases e439
           replace hx439_0 := Bw_ hx439_0 HB
           replace p439 := eq_true p439
           replace q439 := eq_true q439
           have hnb65 := NB433_434.out
           have hnc65 := NB434_433.out
           obtain ⟨hcz66_0, hcz66_1, hcz66_2, hfz66_0, hfz66_1, hfz66_2⟩ := Bc3_ BK433
           go_wp2_with (first | (go_at_call 102; (refine (impl_isValue.calls _ _ l0_0 _ _ l0_1 _ _ l0_2 (rd l1_5 x60_2) false _ (Sc_ HR0_0 HB) HC0_0.out (Sc_ HR0_1 HB) HC0_1.out (Sc_ HR0_2 HB) HC0_2.out A47.out).mono ?_); rintro e w67 ⟨rfl, hb⟩; replace BK433 := Bb_ BK433 hb; replace BK434 := Bb_ BK434 hb; replace HB := Hs_ HB hb; clear hb))
           repeat (go_quiet (first | (go_at_call 102; (refine (impl_isValue.calls _ _ l0_0 _ _ l0_1 _ _ l0_2 (rd l1_5 x60_2) false _ (Sc_ HR0_0 HB) HC0_0.out (Sc_ HR0_1 HB) HC0_1.out (Sc_ HR0_2 HB) HC0_2.out A47.out).mono ?_); rintro e w67 ⟨rfl, hb⟩; replace BK433 := Bb_ BK433 hb; replace BK434 := Bb_ BK434 hb; replace HB := Hs_ HB hb; clear hb)); try go_wp2_with (first | (go_at_call 102; (refine (impl_isValue.calls _ _ l0_0 _ _ l0_1 _ _ l0_2 (rd l1_5 x60_2) false _ (Sc_ HR0_0 HB) HC0_0.out (Sc_ HR0_1 HB) HC0_1.out (Sc_ HR0_2 HB) HC0_2.out A47.out).mono ?_); rintro e w67 ⟨rfl, hb⟩; replace BK433 := Bb_ BK433 hb; replace BK434 := Bb_ BK434 hb; replace HB := Hs_ HB hb; clear hb)))
           go_ret
           exact ⟨Re_, Hf_ HB⟩
         ·rw [if_neg c46] at H
          have c46b0 := decide_eq_false c46
          clear c46
          by_cases c68 : x60_2 ≥ x5_2
          ·rw [if_pos c68] at H
           have c68b0 : decide (x5_2 ≤ x60_2) = true := decide_eq_true c68
           clear c68
           obtain ⟨t442, A69, H⟩ := Bo_ H
           by_cases c70 : t442 = true
           ·subst c70
            rw [if_pos rfl] at H
            have H' := Aside0.mk H
            clear H
            have p439 : 0 ≤ (x60_2 : Int) := of_decide_eq_true As_
            have q439 : x60_2 < (l1_5.length : Int) := of_decide_eq_true As_
            obtain ⟨ad439, e439, hx439_0⟩ := Kd.at_int HR1_5.out x60_2 p439 q439
            cases e439
            replace hx439_0 := Bw_ hx439_0 HB
            replace p439 := eq_true p439
            replace q439 := eq_true q439
            have hnb71 := NB433_434.out
            have hnc71 := NB434_433.out
            obtain ⟨hcz72_0, hcz72_1, hcz72_2, hfz72_0, hfz72_1, hfz72_2⟩ := Bc3_ BK433
            go_wp2_with (first | (go_at_call 96; (refine (impl_isBlock.calls _ _ l0_0 _ _ l0_1 _ _ l0_2 (rd l1_5 x60_2) true _ (Sc_ HR0_0 HB) HC0_0.out (Sc_ HR0_1 HB) HC0_1.out (Sc_ HR0_2 HB) HC0_2.out A69.out).mono ?_); rintro e w73 ⟨rfl, hb⟩; replace BK433 := Bb_ BK433 hb; replace BK434 := Bb_ BK434 hb; replace HB := Hs_ HB hb; clear hb))
            repeat (go_quiet (first | (go_at_call 96; (refine (impl_isBlock.calls _ _ l0_0 _ _ l0_1 _ _ l0_2 (rd l1_5 x60_2) true _ (Sc_ HR0_0 HB) HC0_0.out (Sc_ HR0_1 HB) HC0_1.out (Sc_ HR0_2 HB) HC0_2.out A69.out).mono ?_); rintro e w73 ⟨rfl, hb⟩; replace BK433 := Bb_ BK433 hb; replace BK434 := Bb_ BK434 hb; replace HB := Hs_ HB hb; clear hb)); try go_wp2_with (first | (go_at_call 96; (refine (impl_isBlock.calls _ _ l0_0 _ _ l0_1 _ _ l0_2 (rd l1_5 x60_2) true _ (Sc_ HR0_0 HB) HC0_0.out (Sc_ HR0_1 HB) HC0_1.out (Sc_ HR0_2 HB) HC0_2.out A69.out).mono ?_); rintro e w73 ⟨rfl, hb⟩; replace BK433 := Bb_ BK433 hb; replace BK434 := Bb_ BK434 hb; replace HB := Hs_ HB hb; clear hb)))
            go_roundg k2
            case measure => have := HJ2.out; have := HK2.out; omega
            case rel => exact ⟨(wrap64 (x60_2 + 1)), Rr_, H', ⟨by have := HJ2.out; have := HK2.out; omega⟩, ⟨Bq_ BK433⟩, ⟨Bq_ BK434⟩, ⟨Hf_ HB⟩⟩
           ·replace c70 := Bool.eq_false_iff.mpr c70
            subst c70
            rw [if_neg Ff_] at H
            obtain rfl := Option.some.inj H
            have p439 : 0 ≤ (x60_2 : Int) := of_decide_eq_true As_
            have q439 : x60_2 < (l1_5.length : Int) := of_decide_eq_true As_
            obtain ⟨ad439, e439, hx439_0⟩ := Kd.at_int HR1_5.out x60_2 p439 q439
            cases e439
            replace hx439_0 := Bw_ hx439_0 HB
            replace p439 := eq_true p439
            replace q439 := eq_true q439
            have hnb74 := NB433_434.out
            have hnc74 := NB434_433.out
            obtain ⟨hcz75_0, hcz75_1, hcz75_2, hfz75_0, hfz75_1, hfz75_2⟩ := Bc3_ BK433
            go_wp2_with (first | (go_at_call 96; (refine (impl_isBlock.calls _ _ l0_0 _ _ l0_1 _ _ l0_2 (rd l1_5 x60_2) false _ (Sc_ HR0_0 HB) HC0_0.out (Sc_ HR0_1 HB) HC0_1.out (Sc_ HR0_2 HB) HC0_2.out A69.out).mono ?_); rintro e w76 ⟨rfl, hb⟩; replace BK433 := Bb_ BK433 hb; replace BK434 := Bb_ BK434 hb; replace HB := Hs_ HB hb; clear hb))
            repeat (go_quiet (first | (go_at_call 96; (refine (impl_isBlock.calls _ _ l0_0 _ _ l0_1 _ _ l0_2 (rd l1_5 x60_2) false _ (Sc_ HR0_0 HB) HC0_0.out (Sc_ HR0_1 HB) HC0_1.out (Sc_ HR0_2 HB) HC0_2.out A69.out).mono ?_); rintro e w76 ⟨rfl, hb⟩; replace BK433 := Bb_ BK433 hb; replace BK434 := Bb_ BK434 hb; replace HB := Hs_ HB hb; clear hb)); try go_wp2_with (first | (go_at_call 96; (refine (impl_isBlock.calls _ _ l0_0 _ _ l0_1 _ _ l0_2 (rd l1_5 x60_2) false _ (Sc_ HR0_0 HB) HC0_0.out (Sc_ HR0_1 HB) HC0_1.out (Sc_ HR0_2 HB) HC0_2.out A69.out).mono ?_); rintro e w76 ⟨rfl, hb⟩; replace BK433 := Bb_ BK433 hb; replace BK434 := Bb_ BK434 hb; replace HB := Hs_ HB hb; clear hb)))
            go_ret
            exact ⟨Re_, Hf_ HB⟩
          ·rw [if_neg c68] at H
           have c68b0 : decide (x5_2 ≤ x60_2) = false := decide_eq_false c68
           clear c68
           have H' := Aside0.mk H
           clear H
           have p439 : 0 ≤ (x60_2 : Int) := of_decide_eq_true As_
           have q439 : x60_2 < (l1_5.length : Int) := of_decide_eq_true As_
           obtain ⟨ad439, e439, hx439_0⟩ := Kd.at_int HR1_5.out x60_2 p439 q439
           cases e439
           replace hx439_0 := Bw_ hx439_0 HB
           replace p439 := eq_true p439
           replace q439 := eq_true q439
           go_wp2
           repeat (go_quiet (fail); try go_wp2)
           go_roundg k2
           case measure => have := HJ2.out; have := HK2.out; omega
           case rel => exact ⟨(wrap64 (x60_2 + 1)), Rr_, H', ⟨by have := HJ2.out; have := HK2.out; omega⟩, ⟨Bq_ BK433⟩, ⟨Bq_ BK434⟩, ⟨Hf_ HB⟩⟩
        ·rw [if_neg c45] at H
         exact absurd H (by simp)
       ·rw [if_neg c44] at H
        exact absurd H (by simp)
      ·rw [if_neg c43] at H
       have c43b0 := decide_eq_false c43
       clear c43
       obtain rfl := Option.some.inj H
       go_wp2
       repeat (go_quiet (fail); try go_wp2)
       go_ret
       exact ⟨Re_, Hf_ HB⟩
   ·rw [if_neg c40] at H
    have c40b0 := beq_eq_false_iff_ne.mpr c40
    have c40b1 := bne_iff_ne.mpr c40
    obtain rfl := Option.some.inj H
    have hnb77 := NB434_433.out
    have hnc77 := NB433_434.out
    obtain ⟨hcz78_0, hcz78_1, hcz78_2, hcz78_3, hcz78_4, hcz78_5, hfz78_0, hfz78_1, hfz78_2, hfz78_3, hfz78_4, hfz78_5⟩ := Bc6_ BK434
    go_wp2
    repeat (go_quiet (fail); try go_wp2)
    go_ret
    exact ⟨Re_, Hf_ HB⟩

end Go.Proofs.Ytmbkcbgbienjoaa.PFnExactValueOf
