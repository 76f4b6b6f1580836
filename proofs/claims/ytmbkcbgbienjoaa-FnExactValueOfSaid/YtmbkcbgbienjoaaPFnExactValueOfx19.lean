/- The machine side of the law FnExactValueOf: for each function that it reaches, a Lean function and its contract. Written by a program of this session's over the kit's print. No condition. -/
import Derived.Test.YtmbkcbgbienjoaaCmq
import Derived.Test.YtmbkcbgbienjoaaPFnExactValueOfx0
import Derived.Test.YtmbkcbgbienjoaaPFnExactValueOfx16
import Derived.Test.YtmbkcbgbienjoaaPFnExactValueOfx18
namespace Go.Proofs.Ytmbkcbgbienjoaa.PFnExactValueOf
open Go.RowKit Go.Proofs.YtmbkcbgbienjoaaW.PrintWords Go.Proofs.YtmbkcbgbienjoaaW.PrintLast Go.Proofs.YtmbkcbgbienjoaaW.PrintMore Go.Proofs.Ytmbkcbgbienjoaa.Cmp
attribute [local go_sem] max2_int min2_int max_two min_two max_three min_three max_four min_four   -- for this text's walks alone
set_option linter.unusedVariables false
set_option maxHeartbeats 8000000
set_option maxRecDepth 100000
set_option linter.unusedSimpArgs false

/-! ### impl_namesOk: function 82 -/
def impl_namesOk.j0 : Nat → Bool → Bool → Bool → Bool → Int → Bool → Int → Int → ByteArray → ByteArray → ByteArray → List Int → Option (Bool)
 | 0, _, _, _, _, _, _, _, _, _, _, _, _ => none
 | k + 1, x3, x4, x5, x6, x14, x15, x454000, x454001, x454002, x454003, x454004, x454005 => if x15 = true then (if x6 = true then (if x5 = true then ((impl_NameOk.f k x454002).bind fun t454 => (if t454 = true then (if x4 = true then ((impl_NameOk.f k x454003).bind fun t455 => (if t455 = true then (some true) else (some false))) else (some (x454003.toList == ([] : List UInt8)))) else (some false))) else (some false)) else (some false)) else (if x14 = 14 then (if x5 = true then (if x6 = true then ((impl_NameOk.f k x454002).bind fun t456 => (if t456 = true then ((impl_NameOk.f k x454003).bind fun t457 => (if t457 = true then (some true) else (some false))) else (some false))) else (some false)) else ((impl_NameOk.f k x454004).bind fun t458 => (if x6 = true then (if t458 = true then ((impl_NameOk.f k x454002).bind fun t459 => (if t459 = true then ((impl_NameOk.f k x454003).bind fun t460 => (if t460 = true then (some true) else (some false))) else (some false))) else (some false)) else (some false)))) else (if x14 = 1 then ((impl_within.f x454001 0 1000000).bind fun t461 => (if t461 = true then (if x5 = true then (if x3 = true then ((impl_NameOk.f k x454002).bind fun t462 => (if t462 = true then (if x4 = true then ((impl_NameOk.f k x454003).bind fun t463 => (if t463 = true then (some true) else (some false))) else (some (x454003.toList == ([] : List UInt8)))) else (some false))) else (if x454002.toList = ([] : List UInt8) then (if x4 = true then ((impl_NameOk.f k x454003).bind fun t464 => (if t464 = true then (some true) else (some false))) else (some (x454003.toList == ([] : List UInt8)))) else (some false))) else (some false)) else (some false))) else (if x14 = 3 then ((impl_within.f x454001 1 9).bind fun t465 => (if t465 = true then (if x5 = true then (if x3 = true then ((impl_NameOk.f k x454002).bind fun t466 => (if t466 = true then (if x4 = true then ((impl_NameOk.f k x454003).bind fun t467 => (if t467 = true then (some true) else (some false))) else (some (x454003.toList == ([] : List UInt8)))) else (some false))) else (if x454002.toList = ([] : List UInt8) then (if x4 = true then ((impl_NameOk.f k x454003).bind fun t468 => (if t468 = true then (some true) else (some false))) else (some (x454003.toList == ([] : List UInt8)))) else (some false))) else (some false)) else (some false))) else (if x6 = true then (if x5 = true then (if x3 = true then ((impl_NameOk.f k x454002).bind fun t469 => (if t469 = true then (if x4 = true then ((impl_NameOk.f k x454003).bind fun t470 => (if t470 = true then (some true) else (some false))) else (some (x454003.toList == ([] : List UInt8)))) else (some false))) else (if x454002.toList = ([] : List UInt8) then (if x4 = true then ((impl_NameOk.f k x454003).bind fun t471 => (if t471 = true then (some true) else (some false))) else (some (x454003.toList == ([] : List UInt8)))) else (some false))) else (some false)) else (some false)))))
def impl_namesOk.f (k : Nat) (a0_0 : Int) (a0_1 : Int) (a0_2 : ByteArray) (a0_3 : ByteArray) (a0_4 : ByteArray) (l0_5 : List Int) : Option (Bool) := if a0_0 = 2 then (impl_namesOk.j0 k false false (a0_4.toList == ([] : List UInt8)) (a0_1 == 0) a0_0 (a0_0 == 2) a0_0 a0_1 a0_2 a0_3 a0_4 l0_5) else (if a0_0 = 11 then (impl_namesOk.j0 k false false (a0_4.toList == ([] : List UInt8)) (a0_1 == 0) a0_0 (a0_0 == 11) a0_0 a0_1 a0_2 a0_3 a0_4 l0_5) else (if a0_0 = 16 then (impl_namesOk.j0 k false false (a0_4.toList == ([] : List UInt8)) (a0_1 == 0) a0_0 (a0_0 == 16) a0_0 a0_1 a0_2 a0_3 a0_4 l0_5) else (if a0_0 = 17 then (impl_namesOk.j0 k false false (a0_4.toList == ([] : List UInt8)) (a0_1 == 0) a0_0 (a0_0 == 17) a0_0 a0_1 a0_2 a0_3 a0_4 l0_5) else (impl_namesOk.j0 k false false (a0_4.toList == ([] : List UInt8)) (a0_1 == 0) a0_0 (a0_0 == 18) a0_0 a0_1 a0_2 a0_3 a0_4 l0_5))))
theorem impl_namesOk.calls (k : Nat) (a0_0 : Int) (a0_1 : Int) (a0_2 : ByteArray) (a0_3 : ByteArray) (a0_4 : ByteArray) (A0_5 : Option Addr) (c0_5 : Nat) (l0_5 : List Int) (r : Bool) (w : World) (hr0_5 : Kd.C (Kd.int .i64) w A0_5 l0_5.length l0_5) (hc0_5 : l0_5.length ≤ c0_5) (h : impl_namesOk.f k a0_0 a0_1 a0_2 a0_3 a0_4 l0_5 = some r) :
  Calls Try.prog 82 #[.agg #[.int .i64 a0_0, .int .i64 a0_1, .string a0_2, .string a0_3, .string a0_4, .slice A0_5 l0_5.length c0_5]] w fun e w' => e = .returned (.bool r) ∧ Below w.heap.size w w' := by
 have hu77 := Try.underlying77
 have HR0_5 := Aside0.mk hr0_5
 have HC0_5 := Aside0.mk hc0_5
 clear hr0_5 hc0_5
 have HB := Aside0.mk (Below.refl w.heap.size w)
 have H : (if a0_0 = 2 then (impl_namesOk.j0 k false false (a0_4.toList == ([] : List UInt8)) (a0_1 == 0) a0_0 (a0_0 == 2) a0_0 a0_1 a0_2 a0_3 a0_4 l0_5) else (if a0_0 = 11 then (impl_namesOk.j0 k false false (a0_4.toList == ([] : List UInt8)) (a0_1 == 0) a0_0 (a0_0 == 11) a0_0 a0_1 a0_2 a0_3 a0_4 l0_5) else (if a0_0 = 16 then (impl_namesOk.j0 k false false (a0_4.toList == ([] : List UInt8)) (a0_1 == 0) a0_0 (a0_0 == 16) a0_0 a0_1 a0_2 a0_3 a0_4 l0_5) else (if a0_0 = 17 then (impl_namesOk.j0 k false false (a0_4.toList == ([] : List UInt8)) (a0_1 == 0) a0_0 (a0_0 == 17) a0_0 a0_1 a0_2 a0_3 a0_4 l0_5) else (impl_namesOk.j0 k false false (a0_4.toList == ([] : List UInt8)) (a0_1 == 0) a0_0 (a0_0 == 18) a0_0 a0_1 a0_2 a0_3 a0_4 l0_5))))) = some r := h
 clear h
 have HC2 := Aside0.mk H
 clear H
 go_enter Try.func82, Try.ntmps82
 go_upto_if 15 with (first | (refine Bv_ 1 #[.int .i64 a0_0, .int .i64 a0_1, .string a0_2, .string a0_3, .string a0_4, .slice A0_5 l0_5.length c0_5] 77 ?_; intro gb453 hg w3 BK453 hb; have GW453 := Hg_ HB hg; replace HB := Hs_ HB hb; clear hb hg; obtain ⟨hcz4_0, hcz4_1, hcz4_2, hcz4_3, hcz4_4, hcz4_5, hfz4_0, hfz4_1, hfz4_2, hfz4_3, hfz4_4, hfz4_5⟩ := Bc6_ BK453))
 repeat (go_quiet (first | (refine Bv_ 1 #[.int .i64 a0_0, .int .i64 a0_1, .string a0_2, .string a0_3, .string a0_4, .slice A0_5 l0_5.length c0_5] 77 ?_; intro gb453 hg w3 BK453 hb; have GW453 := Hg_ HB hg; replace HB := Hs_ HB hb; clear hb hg; obtain ⟨hcz4_0, hcz4_1, hcz4_2, hcz4_3, hcz4_4, hcz4_5, hfz4_0, hfz4_1, hfz4_2, hfz4_3, hfz4_4, hfz4_5⟩ := Bc6_ BK453)); go_upto_if 15 with (first | (refine Bv_ 1 #[.int .i64 a0_0, .int .i64 a0_1, .string a0_2, .string a0_3, .string a0_4, .slice A0_5 l0_5.length c0_5] 77 ?_; intro gb453 hg w3 BK453 hb; have GW453 := Hg_ HB hg; replace HB := Hs_ HB hb; clear hb hg; obtain ⟨hcz4_0, hcz4_1, hcz4_2, hcz4_3, hcz4_4, hcz4_5, hfz4_0, hfz4_1, hfz4_2, hfz4_3, hfz4_4, hfz4_5⟩ := Bc6_ BK453)))
 (try simp only [Act.put, List.setIfInBounds_toArray, List.set_cons_zero, List.set_cons_succ])
 go_cut [15] (fun v15 wc => ∃ (kq : Nat) (x15_1 : Bool), v15 = .bool x15_1 ∧ Aside0 (impl_namesOk.j0 kq false false (a0_4.toList == ([] : List UInt8)) (a0_1 == 0) a0_0 x15_1 a0_0 a0_1 a0_2 a0_3 a0_4 l0_5 = some r) ∧ Aside0 (kq ≤ k) ∧ Aside0 (wc.heap[gb453]? = some (.cells #[.int .i64 a0_0, .int .i64 a0_1, .string a0_2, .string a0_3, .string a0_4, (.slice A0_5 l0_5.length c0_5)] 77 (0, 0))) ∧ Aside0 (Below w.heap.size w wc))
 case first =>
  have H := HC2.out
  clear HC2
  by_cases c5 : a0_0 = 2
  ·rw [if_pos c5] at H
   have c5b0 := beq_iff_eq.mpr c5
   have c5b1 := bne_eq_false_iff_eq.mpr c5
   clear c5
   (first | rw [c5b0] | (simp only [i64_w, i32_w]; rw [c5b0]) | skip)
   have H' := Aside0.mk H
   clear H
   go_wp2
   repeat (go_quiet (fail); try go_wp2)
   go_meet
   case rel => exact ⟨_, ((a0_0 == 2)), Rr_, H', ⟨by first | omega | exact Nat.le_refl _⟩, ⟨Bq_ BK453⟩, ⟨Hf_ HB⟩⟩
  ·rw [if_neg c5] at H
   have c5b0 := beq_eq_false_iff_ne.mpr c5
   have c5b1 := bne_iff_ne.mpr c5
   (first | rw [c5b0] | (simp only [i64_w, i32_w]; rw [c5b0]) | skip)
   by_cases c6 : a0_0 = 11
   ·rw [if_pos c6] at H
    have c6b0 := beq_iff_eq.mpr c6
    have c6b1 := bne_eq_false_iff_eq.mpr c6
    clear c6
    have H' := Aside0.mk H
    clear H
    go_wp2
    repeat (go_quiet (fail); try go_wp2)
    go_meet
    case rel => exact ⟨_, ((a0_0 == 11)), Rr_, H', ⟨by first | omega | exact Nat.le_refl _⟩, ⟨Bq_ BK453⟩, ⟨Hf_ HB⟩⟩
   ·rw [if_neg c6] at H
    have c6b0 := beq_eq_false_iff_ne.mpr c6
    have c6b1 := bne_iff_ne.mpr c6
    by_cases c7 : a0_0 = 16
    ·rw [if_pos c7] at H
     have c7b0 := beq_iff_eq.mpr c7
     have c7b1 := bne_eq_false_iff_eq.mpr c7
     clear c7
     have H' := Aside0.mk H
     clear H
     go_wp2
     repeat (go_quiet (fail); try go_wp2)
     go_meet
     case rel => exact ⟨_, ((a0_0 == 16)), Rr_, H', ⟨by first | omega | exact Nat.le_refl _⟩, ⟨Bq_ BK453⟩, ⟨Hf_ HB⟩⟩
    ·rw [if_neg c7] at H
     have c7b0 := beq_eq_false_iff_ne.mpr c7
     have c7b1 := bne_iff_ne.mpr c7
     by_cases c8 : a0_0 = 17
     ·rw [if_pos c8] at H
      have c8b0 := beq_iff_eq.mpr c8
      have c8b1 := bne_eq_false_iff_eq.mpr c8
      clear c8
      have H' := Aside0.mk H
      clear H
      go_wp2
      repeat (go_quiet (fail); try go_wp2)
      go_meet
      case rel => exact ⟨_, ((a0_0 == 17)), Rr_, H', ⟨by first | omega | exact Nat.le_refl _⟩, ⟨Bq_ BK453⟩, ⟨Hf_ HB⟩⟩
     ·rw [if_neg c8] at H
      have c8b0 := beq_eq_false_iff_ne.mpr c8
      have c8b1 := bne_iff_ne.mpr c8
      have H' := Aside0.mk H
      clear H
      go_wp2
      repeat (go_quiet (fail); try go_wp2)
      go_meet
      case rel => exact ⟨_, ((a0_0 == 18)), Rr_, H', ⟨by first | omega | exact Nat.le_refl _⟩, ⟨Bq_ BK453⟩, ⟨Hf_ HB⟩⟩
 case rest =>
  clear HC2
  clear hcz4_0 hcz4_1 hcz4_2 hcz4_3 hcz4_4 hcz4_5 hfz4_0 hfz4_1 hfz4_2 hfz4_3 hfz4_4 hfz4_5
  obtain ⟨kq, x15_1, rfl, HA, HJ1, BK453, HB⟩ := hcut
  cases kq with
  | zero => exact absurd HA.out (by simp [impl_namesOk.j0])
  | succ kj1 =>
   have H := HA.out
   clear HA
   simp only [impl_namesOk.j0] at H
   by_cases c9 : x15_1 = true
   ·subst c9
    rw [if_pos rfl] at H
    by_cases c10 : (a0_1 == 0) = true
    ·rw [if_pos c10] at H
     have c10b0 : (a0_1 == 0) = true := c10
     (try (have c10b1 : decide (a0_1 = 0) = true := by simpa using c10))
     (try (have c10b2 : (a0_1 == 0) = true := by simpa using c10))
     clear c10
     by_cases c11 : (a0_4.toList == ([] : List UInt8)) = true
     ·rw [if_pos c11] at H
      have c11b0 : (a0_4.toList == ([] : List UInt8)) = true := c11
      (try (have c11b9 : a0_4.toList.isEmpty = true := by simpa using c11))
      (try (have c11b1 : decide (a0_4.toList = ([] : List UInt8)) = true := by simpa using c11))
      (try (have c11b2 : (a0_4.toList == ([] : List UInt8)) = true := by simpa using c11))
      clear c11
      obtain ⟨t454, A12, H⟩ := Bo_ H
      by_cases c13 : t454 = true
      ·subst c13
       rw [if_pos rfl] at H
       by_cases c14 : false = true
       ·exact absurd c14 (by decide)
       ·replace c14 := Bool.eq_false_iff.mpr c14
        clear c14
        rw [if_neg Ff_] at H
        obtain rfl := Option.some.inj H
        obtain ⟨hcz25_0, hcz25_1, hcz25_2, hcz25_3, hcz25_4, hcz25_5, hfz25_0, hfz25_1, hfz25_2, hfz25_3, hfz25_4, hfz25_5⟩ := Bc6_ BK453
        go_wp2_with (first | (go_at_call 94; (with_reducible refine (impl_NameOk.calls kj1 a0_2 true _ A12.out).mono ?_); rintro e w26 ⟨rfl, hb⟩; replace BK453 := Bb_ BK453 hb; replace HB := Hs_ HB hb; clear hb; obtain ⟨hcz27_0, hcz27_1, hcz27_2, hcz27_3, hcz27_4, hcz27_5, hfz27_0, hfz27_1, hfz27_2, hfz27_3, hfz27_4, hfz27_5⟩ := Bc6_ BK453))
        repeat (go_quiet (first | (go_at_call 94; (with_reducible refine (impl_NameOk.calls kj1 a0_2 true _ A12.out).mono ?_); rintro e w26 ⟨rfl, hb⟩; replace BK453 := Bb_ BK453 hb; replace HB := Hs_ HB hb; clear hb; obtain ⟨hcz27_0, hcz27_1, hcz27_2, hcz27_3, hcz27_4, hcz27_5, hfz27_0, hfz27_1, hfz27_2, hfz27_3, hfz27_4, hfz27_5⟩ := Bc6_ BK453)); try go_wp2_with (first | (go_at_call 94; (with_reducible refine (impl_NameOk.calls kj1 a0_2 true _ A12.out).mono ?_); rintro e w26 ⟨rfl, hb⟩; replace BK453 := Bb_ BK453 hb; replace HB := Hs_ HB hb; clear hb; obtain ⟨hcz27_0, hcz27_1, hcz27_2, hcz27_3, hcz27_4, hcz27_5, hfz27_0, hfz27_1, hfz27_2, hfz27_3, hfz27_4, hfz27_5⟩ := Bc6_ BK453)))
        go_ret
        exact ⟨Re_, Hf_ HB⟩
      ·replace c13 := Bool.eq_false_iff.mpr c13
       subst c13
       rw [if_neg Ff_] at H
       obtain rfl := Option.some.inj H
       obtain ⟨hcz28_0, hcz28_1, hcz28_2, hcz28_3, hcz28_4, hcz28_5, hfz28_0, hfz28_1, hfz28_2, hfz28_3, hfz28_4, hfz28_5⟩ := Bc6_ BK453
       go_wp2_with (first | (go_at_call 94; (with_reducible refine (impl_NameOk.calls kj1 a0_2 false _ A12.out).mono ?_); rintro e w29 ⟨rfl, hb⟩; replace BK453 := Bb_ BK453 hb; replace HB := Hs_ HB hb; clear hb))
       repeat (go_quiet (first | (go_at_call 94; (with_reducible refine (impl_NameOk.calls kj1 a0_2 false _ A12.out).mono ?_); rintro e w29 ⟨rfl, hb⟩; replace BK453 := Bb_ BK453 hb; replace HB := Hs_ HB hb; clear hb)); try go_wp2_with (first | (go_at_call 94; (with_reducible refine (impl_NameOk.calls kj1 a0_2 false _ A12.out).mono ?_); rintro e w29 ⟨rfl, hb⟩; replace BK453 := Bb_ BK453 hb; replace HB := Hs_ HB hb; clear hb)))
       go_ret
       exact ⟨Re_, Hf_ HB⟩
     ·rw [if_neg c11] at H
      have c11b0 : (a0_4.toList == ([] : List UInt8)) = false := by simpa using c11
      (try (have c11b9 : a0_4.toList.isEmpty = false := by simpa using c11))
      (try (have c11b1 : decide (a0_4.toList = ([] : List UInt8)) = false := by simpa using c11))
      (try (have c11b2 : (a0_4.toList == ([] : List UInt8)) = false := by simpa using c11))
      (try (have c11b3 : ¬ (a0_4.toList = ([] : List UInt8)) := by simpa using c11))
      clear c11
      obtain rfl := Option.some.inj H
      go_wp2
      repeat (go_quiet (fail); try go_wp2)
      go_ret
      exact ⟨Re_, Hf_ HB⟩
    ·rw [if_neg c10] at H
     have c10b0 : (a0_1 == 0) = false := by simpa using c10
     (try (have c10b1 : decide (a0_1 = 0) = false := by simpa using c10))
     (try (have c10b2 : (a0_1 == 0) = false := by simpa using c10))
     (try (have c10b3 : ¬ (a0_1 = 0) := by simpa using c10))
     clear c10
     obtain rfl := Option.some.inj H
     go_wp2
     repeat (go_quiet (fail); try go_wp2)
     go_ret
     exact ⟨Re_, Hf_ HB⟩
   ·replace c9 := Bool.eq_false_iff.mpr c9
    subst c9
    rw [if_neg Ff_] at H
    by_cases c30 : a0_0 = 14
    ·rw [if_pos c30] at H
     have c30b0 := beq_iff_eq.mpr c30
     have c30b1 := bne_eq_false_iff_eq.mpr c30
     clear c30
     by_cases c31 : (a0_4.toList == ([] : List UInt8)) = true
     ·rw [if_pos c31] at H
      have c31b0 : (a0_4.toList == ([] : List UInt8)) = true := c31
      (try (have c31b9 : a0_4.toList.isEmpty = true := by simpa using c31))
      (try (have c31b1 : decide (a0_4.toList = ([] : List UInt8)) = true := by simpa using c31))
      (try (have c31b2 : (a0_4.toList == ([] : List UInt8)) = true := by simpa using c31))
      clear c31
      by_cases c32 : (a0_1 == 0) = true
      ·rw [if_pos c32] at H
       have c32b0 : (a0_1 == 0) = true := c32
       (try (have c32b1 : decide (a0_1 = 0) = true := by simpa using c32))
       (try (have c32b2 : (a0_1 == 0) = true := by simpa using c32))
       clear c32
       obtain ⟨t456, A33, H⟩ := Bo_ H
       by_cases c34 : t456 = true
       ·subst c34
        rw [if_pos rfl] at H
        obtain ⟨t457, A35, H⟩ := Bo_ H
        by_cases c36 : t457 = true
        ·subst c36
         rw [if_pos rfl] at H
         obtain rfl := Option.some.inj H
         obtain ⟨hcz37_0, hcz37_1, hcz37_2, hcz37_3, hcz37_4, hcz37_5, hfz37_0, hfz37_1, hfz37_2, hfz37_3, hfz37_4, hfz37_5⟩ := Bc6_ BK453
         go_wp2_with (first | (go_at_call 94; (with_reducible refine (impl_NameOk.calls kj1 a0_2 true _ A33.out).mono ?_); rintro e w38 ⟨rfl, hb⟩; replace BK453 := Bb_ BK453 hb; replace HB := Hs_ HB hb; clear hb; obtain ⟨hcz39_0, hcz39_1, hcz39_2, hcz39_3, hcz39_4, hcz39_5, hfz39_0, hfz39_1, hfz39_2, hfz39_3, hfz39_4, hfz39_5⟩ := Bc6_ BK453) | (go_at_call 94; (with_reducible refine (impl_NameOk.calls kj1 a0_3 true _ A35.out).mono ?_); rintro e w40 ⟨rfl, hb⟩; replace BK453 := Bb_ BK453 hb; replace HB := Hs_ HB hb; clear hb))
         repeat (go_quiet (first | (go_at_call 94; (with_reducible refine (impl_NameOk.calls kj1 a0_2 true _ A33.out).mono ?_); rintro e w38 ⟨rfl, hb⟩; replace BK453 := Bb_ BK453 hb; replace HB := Hs_ HB hb; clear hb; obtain ⟨hcz39_0, hcz39_1, hcz39_2, hcz39_3, hcz39_4, hcz39_5, hfz39_0, hfz39_1, hfz39_2, hfz39_3, hfz39_4, hfz39_5⟩ := Bc6_ BK453) | (go_at_call 94; (with_reducible refine (impl_NameOk.calls kj1 a0_3 true _ A35.out).mono ?_); rintro e w40 ⟨rfl, hb⟩; replace BK453 := Bb_ BK453 hb; replace HB := Hs_ HB hb; clear hb)); try go_wp2_with (first | (go_at_call 94; (with_reducible refine (impl_NameOk.calls kj1 a0_2 true _ A33.out).mono ?_); rintro e w38 ⟨rfl, hb⟩; replace BK453 := Bb_ BK453 hb; replace HB := Hs_ HB hb; clear hb; obtain ⟨hcz39_0, hcz39_1, hcz39_2, hcz39_3, hcz39_4, hcz39_5, hfz39_0, hfz39_1, hfz39_2, hfz39_3, hfz39_4, hfz39_5⟩ := Bc6_ BK453) | (go_at_call 94; (with_reducible refine (impl_NameOk.calls kj1 a0_3 true _ A35.out).mono ?_); rintro e w40 ⟨rfl, hb⟩; replace BK453 := Bb_ BK453 hb; replace HB := Hs_ HB hb; clear hb)))
         go_ret
         exact ⟨Re_, Hf_ HB⟩
        ·replace c36 := Bool.eq_false_iff.mpr c36
         subst c36
         rw [if_neg Ff_] at H
         obtain rfl := Option.some.inj H
         obtain ⟨hcz41_0, hcz41_1, hcz41_2, hcz41_3, hcz41_4, hcz41_5, hfz41_0, hfz41_1, hfz41_2, hfz41_3, hfz41_4, hfz41_5⟩ := Bc6_ BK453
         go_wp2_with (first | (go_at_call 94; (with_reducible refine (impl_NameOk.calls kj1 a0_2 true _ A33.out).mono ?_); rintro e w42 ⟨rfl, hb⟩; replace BK453 := Bb_ BK453 hb; replace HB := Hs_ HB hb; clear hb; obtain ⟨hcz43_0, hcz43_1, hcz43_2, hcz43_3, hcz43_4, hcz43_5, hfz43_0, hfz43_1, hfz43_2, hfz43_3, hfz43_4, hfz43_5⟩ := Bc6_ BK453) | (go_at_call 94; (with_reducible refine (impl_NameOk.calls kj1 a0_3 false _ A35.out).mono ?_); rintro e w44 ⟨rfl, hb⟩; replace BK453 := Bb_ BK453 hb; replace HB := Hs_ HB hb; clear hb))
         repeat (go_quiet (first | (go_at_call 94; (with_reducible refine (impl_NameOk.calls kj1 a0_2 true _ A33.out).mono ?_); rintro e w42 ⟨rfl, hb⟩; replace BK453 := Bb_ BK453 hb; replace HB := Hs_ HB hb; clear hb; obtain ⟨hcz43_0, hcz43_1, hcz43_2, hcz43_3, hcz43_4, hcz43_5, hfz43_0, hfz43_1, hfz43_2, hfz43_3, hfz43_4, hfz43_5⟩ := Bc6_ BK453) | (go_at_call 94; (with_reducible refine (impl_NameOk.calls kj1 a0_3 false _ A35.out).mono ?_); rintro e w44 ⟨rfl, hb⟩; replace BK453 := Bb_ BK453 hb; replace HB := Hs_ HB hb; clear hb)); try go_wp2_with (first | (go_at_call 94; (with_reducible refine (impl_NameOk.calls kj1 a0_2 true _ A33.out).mono ?_); rintro e w42 ⟨rfl, hb⟩; replace BK453 := Bb_ BK453 hb; replace HB := Hs_ HB hb; clear hb; obtain ⟨hcz43_0, hcz43_1, hcz43_2, hcz43_3, hcz43_4, hcz43_5, hfz43_0, hfz43_1, hfz43_2, hfz43_3, hfz43_4, hfz43_5⟩ := Bc6_ BK453) | (go_at_call 94; (with_reducible refine (impl_NameOk.calls kj1 a0_3 false _ A35.out).mono ?_); rintro e w44 ⟨rfl, hb⟩; replace BK453 := Bb_ BK453 hb; replace HB := Hs_ HB hb; clear hb)))
         go_ret
         exact ⟨Re_, Hf_ HB⟩
       ·replace c34 := Bool.eq_false_iff.mpr c34
        subst c34
        rw [if_neg Ff_] at H
        obtain rfl := Option.some.inj H
        obtain ⟨hcz45_0, hcz45_1, hcz45_2, hcz45_3, hcz45_4, hcz45_5, hfz45_0, hfz45_1, hfz45_2, hfz45_3, hfz45_4, hfz45_5⟩ := Bc6_ BK453
        go_wp2_with (first | (go_at_call 94; (with_reducible refine (impl_NameOk.calls kj1 a0_2 false _ A33.out).mono ?_); rintro e w46 ⟨rfl, hb⟩; replace BK453 := Bb_ BK453 hb; replace HB := Hs_ HB hb; clear hb))
        repeat (go_quiet (first | (go_at_call 94; (with_reducible refine (impl_NameOk.calls kj1 a0_2 false _ A33.out).mono ?_); rintro e w46 ⟨rfl, hb⟩; replace BK453 := Bb_ BK453 hb; replace HB := Hs_ HB hb; clear hb)); try go_wp2_with (first | (go_at_call 94; (with_reducible refine (impl_NameOk.calls kj1 a0_2 false _ A33.out).mono ?_); rintro e w46 ⟨rfl, hb⟩; replace BK453 := Bb_ BK453 hb; replace HB := Hs_ HB hb; clear hb)))
        go_ret
        exact ⟨Re_, Hf_ HB⟩
      ·rw [if_neg c32] at H
       have c32b0 : (a0_1 == 0) = false := by simpa using c32
       (try (have c32b1 : decide (a0_1 = 0) = false := by simpa using c32))
       (try (have c32b2 : (a0_1 == 0) = false := by simpa using c32))
       (try (have c32b3 : ¬ (a0_1 = 0) := by simpa using c32))
       clear c32
       obtain rfl := Option.some.inj H
       go_wp2
       repeat (go_quiet (fail); try go_wp2)
       go_ret
       exact ⟨Re_, Hf_ HB⟩
     ·rw [if_neg c31] at H
      have c31b0 : (a0_4.toList == ([] : List UInt8)) = false := by simpa using c31
      (try (have c31b9 : a0_4.toList.isEmpty = false := by simpa using c31))
      (try (have c31b1 : decide (a0_4.toList = ([] : List UInt8)) = false := by simpa using c31))
      (try (have c31b2 : (a0_4.toList == ([] : List UInt8)) = false := by simpa using c31))
      (try (have c31b3 : ¬ (a0_4.toList = ([] : List UInt8)) := by simpa using c31))
      clear c31
      obtain ⟨t458, A47, H⟩ := Bo_ H
      by_cases c48 : (a0_1 == 0) = true
      ·rw [if_pos c48] at H
       have c48b0 : (a0_1 == 0) = true := c48
       (try (have c48b1 : decide (a0_1 = 0) = true := by simpa using c48))
       (try (have c48b2 : (a0_1 == 0) = true := by simpa using c48))
       clear c48
       by_cases c49 : t458 = true
       ·subst c49
        rw [if_pos rfl] at H
        obtain ⟨t459, A50, H⟩ := Bo_ H
        by_cases c51 : t459 = true
        ·subst c51
         rw [if_pos rfl] at H
         obtain ⟨t460, A52, H⟩ := Bo_ H
         by_cases c53 : t460 = true
         ·subst c53
          rw [if_pos rfl] at H
          obtain rfl := Option.some.inj H
          obtain ⟨hcz54_0, hcz54_1, hcz54_2, hcz54_3, hcz54_4, hcz54_5, hfz54_0, hfz54_1, hfz54_2, hfz54_3, hfz54_4, hfz54_5⟩ := Bc6_ BK453
          go_wp2_with (first | (go_at_call 94; (with_reducible refine (impl_NameOk.calls kj1 a0_4 true _ A47.out).mono ?_); rintro e w55 ⟨rfl, hb⟩; replace BK453 := Bb_ BK453 hb; replace HB := Hs_ HB hb; clear hb; obtain ⟨hcz56_0, hcz56_1, hcz56_2, hcz56_3, hcz56_4, hcz56_5, hfz56_0, hfz56_1, hfz56_2, hfz56_3, hfz56_4, hfz56_5⟩ := Bc6_ BK453) | (go_at_call 94; (with_reducible refine (impl_NameOk.calls kj1 a0_2 true _ A50.out).mono ?_); rintro e w57 ⟨rfl, hb⟩; replace BK453 := Bb_ BK453 hb; replace HB := Hs_ HB hb; clear hb; obtain ⟨hcz58_0, hcz58_1, hcz58_2, hcz58_3, hcz58_4, hcz58_5, hfz58_0, hfz58_1, hfz58_2, hfz58_3, hfz58_4, hfz58_5⟩ := Bc6_ BK453) | (go_at_call 94; (with_reducible refine (impl_NameOk.calls kj1 a0_3 true _ A52.out).mono ?_); rintro e w59 ⟨rfl, hb⟩; replace BK453 := Bb_ BK453 hb; replace HB := Hs_ HB hb; clear hb))
          repeat (go_quiet (first | (go_at_call 94; (with_reducible refine (impl_NameOk.calls kj1 a0_4 true _ A47.out).mono ?_); rintro e w55 ⟨rfl, hb⟩; replace BK453 := Bb_ BK453 hb; replace HB := Hs_ HB hb; clear hb; obtain ⟨hcz56_0, hcz56_1, hcz56_2, hcz56_3, hcz56_4, hcz56_5, hfz56_0, hfz56_1, hfz56_2, hfz56_3, hfz56_4, hfz56_5⟩ := Bc6_ BK453) | (go_at_call 94; (with_reducible refine (impl_NameOk.calls kj1 a0_2 true _ A50.out).mono ?_); rintro e w57 ⟨rfl, hb⟩; replace BK453 := Bb_ BK453 hb; replace HB := Hs_ HB hb; clear hb; obtain ⟨hcz58_0, hcz58_1, hcz58_2, hcz58_3, hcz58_4, hcz58_5, hfz58_0, hfz58_1, hfz58_2, hfz58_3, hfz58_4, hfz58_5⟩ := Bc6_ BK453) | (go_at_call 94; (with_reducible refine (impl_NameOk.calls kj1 a0_3 true _ A52.out).mono ?_); rintro e w59 ⟨rfl, hb⟩; replace BK453 := Bb_ BK453 hb; replace HB := Hs_ HB hb; clear hb)); try go_wp2_with (first | (go_at_call 94; (with_reducible refine (impl_NameOk.calls kj1 a0_4 true _ A47.out).mono ?_); rintro e w55 ⟨rfl, hb⟩; replace BK453 := Bb_ BK453 hb; replace HB := Hs_ HB hb; clear hb; obtain ⟨hcz56_0, hcz56_1, hcz56_2, hcz56_3, hcz56_4, hcz56_5, hfz56_0, hfz56_1, hfz56_2, hfz56_3, hfz56_4, hfz56_5⟩ := Bc6_ BK453) | (go_at_call 94; (with_reducible refine (impl_NameOk.calls kj1 a0_2 true _ A50.out).mono ?_); rintro e w57 ⟨rfl, hb⟩; replace BK453 := Bb_ BK453 hb; replace HB := Hs_ HB hb; clear hb; obtain ⟨hcz58_0, hcz58_1, hcz58_2, hcz58_3, hcz58_4, hcz58_5, hfz58_0, hfz58_1, hfz58_2, hfz58_3, hfz58_4, hfz58_5⟩ := Bc6_ BK453) | (go_at_call 94; (with_reducible refine (impl_NameOk.calls kj1 a0_3 true _ A52.out).mono ?_); rintro e w59 ⟨rfl, hb⟩; replace BK453 := Bb_ BK453 hb; replace HB := Hs_ HB hb; clear hb)))
          go_ret
          exact ⟨Re_, Hf_ HB⟩
         ·replace c53 := Bool.eq_false_iff.mpr c53
          subst c53
          rw [if_neg Ff_] at H
          obtain rfl := Option.some.inj H
          obtain ⟨hcz60_0, hcz60_1, hcz60_2, hcz60_3, hcz60_4, hcz60_5, hfz60_0, hfz60_1, hfz60_2, hfz60_3, hfz60_4, hfz60_5⟩ := Bc6_ BK453
          go_wp2_with (first | (go_at_call 94; (with_reducible refine (impl_NameOk.calls kj1 a0_4 true _ A47.out).mono ?_); rintro e w61 ⟨rfl, hb⟩; replace BK453 := Bb_ BK453 hb; replace HB := Hs_ HB hb; clear hb; obtain ⟨hcz62_0, hcz62_1, hcz62_2, hcz62_3, hcz62_4, hcz62_5, hfz62_0, hfz62_1, hfz62_2, hfz62_3, hfz62_4, hfz62_5⟩ := Bc6_ BK453) | (go_at_call 94; (with_reducible refine (impl_NameOk.calls kj1 a0_2 true _ A50.out).mono ?_); rintro e w63 ⟨rfl, hb⟩; replace BK453 := Bb_ BK453 hb; replace HB := Hs_ HB hb; clear hb; obtain ⟨hcz64_0, hcz64_1, hcz64_2, hcz64_3, hcz64_4, hcz64_5, hfz64_0, hfz64_1, hfz64_2, hfz64_3, hfz64_4, hfz64_5⟩ := Bc6_ BK453) | (go_at_call 94; (with_reducible refine (impl_NameOk.calls kj1 a0_3 false _ A52.out).mono ?_); rintro e w65 ⟨rfl, hb⟩; replace BK453 := Bb_ BK453 hb; replace HB := Hs_ HB hb; clear hb))
          repeat (go_quiet (first | (go_at_call 94; (with_reducible refine (impl_NameOk.calls kj1 a0_4 true _ A47.out).mono ?_); rintro e w61 ⟨rfl, hb⟩; replace BK453 := Bb_ BK453 hb; replace HB := Hs_ HB hb; clear hb; obtain ⟨hcz62_0, hcz62_1, hcz62_2, hcz62_3, hcz62_4, hcz62_5, hfz62_0, hfz62_1, hfz62_2, hfz62_3, hfz62_4, hfz62_5⟩ := Bc6_ BK453) | (go_at_call 94; (with_reducible refine (impl_NameOk.calls kj1 a0_2 true _ A50.out).mono ?_); rintro e w63 ⟨rfl, hb⟩; replace BK453 := Bb_ BK453 hb; replace HB := Hs_ HB hb; clear hb; obtain ⟨hcz64_0, hcz64_1, hcz64_2, hcz64_3, hcz64_4, hcz64_5, hfz64_0, hfz64_1, hfz64_2, hfz64_3, hfz64_4, hfz64_5⟩ := Bc6_ BK453) | (go_at_call 94; (with_reducible refine (impl_NameOk.calls kj1 a0_3 false _ A52.out).mono ?_); rintro e w65 ⟨rfl, hb⟩; replace BK453 := Bb_ BK453 hb; replace HB := Hs_ HB hb; clear hb)); try go_wp2_with (first | (go_at_call 94; (with_reducible refine (impl_NameOk.calls kj1 a0_4 true _ A47.out).mono ?_); rintro e w61 ⟨rfl, hb⟩; replace BK453 := Bb_ BK453 hb; replace HB := Hs_ HB hb; clear hb; obtain ⟨hcz62_0, hcz62_1, hcz62_2, hcz62_3, hcz62_4, hcz62_5, hfz62_0, hfz62_1, hfz62_2, hfz62_3, hfz62_4, hfz62_5⟩ := Bc6_ BK453) | (go_at_call 94; (with_reducible refine (impl_NameOk.calls kj1 a0_2 true _ A50.out).mono ?_); rintro e w63 ⟨rfl, hb⟩; replace BK453 := Bb_ BK453 hb; replace HB := Hs_ HB hb; clear hb; obtain ⟨hcz64_0, hcz64_1, hcz64_2, hcz64_3, hcz64_4, hcz64_5, hfz64_0, hfz64_1, hfz64_2, hfz64_3, hfz64_4, hfz64_5⟩ := Bc6_ BK453) | (go_at_call 94; (with_reducible refine (impl_NameOk.calls kj1 a0_3 false _ A52.out).mono ?_); rintro e w65 ⟨rfl, hb⟩; replace BK453 := Bb_ BK453 hb; replace HB := Hs_ HB hb; clear hb)))
          go_ret
          exact ⟨Re_, Hf_ HB⟩
        ·replace c51 := Bool.eq_false_iff.mpr c51
         subst c51
         rw [if_neg Ff_] at H
         obtain rfl := Option.some.inj H
         obtain ⟨hcz66_0, hcz66_1, hcz66_2, hcz66_3, hcz66_4, hcz66_5, hfz66_0, hfz66_1, hfz66_2, hfz66_3, hfz66_4, hfz66_5⟩ := Bc6_ BK453
         go_wp2_with (first | (go_at_call 94; (with_reducible refine (impl_NameOk.calls kj1 a0_4 true _ A47.out).mono ?_); rintro e w67 ⟨rfl, hb⟩; replace BK453 := Bb_ BK453 hb; replace HB := Hs_ HB hb; clear hb; obtain ⟨hcz68_0, hcz68_1, hcz68_2, hcz68_3, hcz68_4, hcz68_5, hfz68_0, hfz68_1, hfz68_2, hfz68_3, hfz68_4, hfz68_5⟩ := Bc6_ BK453) | (go_at_call 94; (with_reducible refine (impl_NameOk.calls kj1 a0_2 false _ A50.out).mono ?_); rintro e w69 ⟨rfl, hb⟩; replace BK453 := Bb_ BK453 hb; replace HB := Hs_ HB hb; clear hb))
         repeat (go_quiet (first | (go_at_call 94; (with_reducible refine (impl_NameOk.calls kj1 a0_4 true _ A47.out).mono ?_); rintro e w67 ⟨rfl, hb⟩; replace BK453 := Bb_ BK453 hb; replace HB := Hs_ HB hb; clear hb; obtain ⟨hcz68_0, hcz68_1, hcz68_2, hcz68_3, hcz68_4, hcz68_5, hfz68_0, hfz68_1, hfz68_2, hfz68_3, hfz68_4, hfz68_5⟩ := Bc6_ BK453) | (go_at_call 94; (with_reducible refine (impl_NameOk.calls kj1 a0_2 false _ A50.out).mono ?_); rintro e w69 ⟨rfl, hb⟩; replace BK453 := Bb_ BK453 hb; replace HB := Hs_ HB hb; clear hb)); try go_wp2_with (first | (go_at_call 94; (with_reducible refine (impl_NameOk.calls kj1 a0_4 true _ A47.out).mono ?_); rintro e w67 ⟨rfl, hb⟩; replace BK453 := Bb_ BK453 hb; replace HB := Hs_ HB hb; clear hb; obtain ⟨hcz68_0, hcz68_1, hcz68_2, hcz68_3, hcz68_4, hcz68_5, hfz68_0, hfz68_1, hfz68_2, hfz68_3, hfz68_4, hfz68_5⟩ := Bc6_ BK453) | (go_at_call 94; (with_reducible refine (impl_NameOk.calls kj1 a0_2 false _ A50.out).mono ?_); rintro e w69 ⟨rfl, hb⟩; replace BK453 := Bb_ BK453 hb; replace HB := Hs_ HB hb; clear hb)))
         go_ret
         exact ⟨Re_, Hf_ HB⟩
       ·replace c49 := Bool.eq_false_iff.mpr c49
        subst c49
        rw [if_neg Ff_] at H
        obtain rfl := Option.some.inj H
        obtain ⟨hcz70_0, hcz70_1, hcz70_2, hcz70_3, hcz70_4, hcz70_5, hfz70_0, hfz70_1, hfz70_2, hfz70_3, hfz70_4, hfz70_5⟩ := Bc6_ BK453
        go_wp2_with (first | (go_at_call 94; (with_reducible refine (impl_NameOk.calls kj1 a0_4 false _ A47.out).mono ?_); rintro e w71 ⟨rfl, hb⟩; replace BK453 := Bb_ BK453 hb; replace HB := Hs_ HB hb; clear hb))
        repeat (go_quiet (first | (go_at_call 94; (with_reducible refine (impl_NameOk.calls kj1 a0_4 false _ A47.out).mono ?_); rintro e w71 ⟨rfl, hb⟩; replace BK453 := Bb_ BK453 hb; replace HB := Hs_ HB hb; clear hb)); try go_wp2_with (first | (go_at_call 94; (with_reducible refine (impl_NameOk.calls kj1 a0_4 false _ A47.out).mono ?_); rintro e w71 ⟨rfl, hb⟩; replace BK453 := Bb_ BK453 hb; replace HB := Hs_ HB hb; clear hb)))
        go_ret
        exact ⟨Re_, Hf_ HB⟩
      ·rw [if_neg c48] at H
       have c48b0 : (a0_1 == 0) = false := by simpa using c48
       (try (have c48b1 : decide (a0_1 = 0) = false := by simpa using c48))
       (try (have c48b2 : (a0_1 == 0) = false := by simpa using c48))
       (try (have c48b3 : ¬ (a0_1 = 0) := by simpa using c48))
       clear c48
       obtain rfl := Option.some.inj H
       obtain ⟨hcz72_0, hcz72_1, hcz72_2, hcz72_3, hcz72_4, hcz72_5, hfz72_0, hfz72_1, hfz72_2, hfz72_3, hfz72_4, hfz72_5⟩ := Bc6_ BK453
       go_wp2_with (first | (go_at_call 94; (with_reducible refine (impl_NameOk.calls kj1 a0_4 t458 _ A47.out).mono ?_); rintro e w73 ⟨rfl, hb⟩; replace BK453 := Bb_ BK453 hb; replace HB := Hs_ HB hb; clear hb))
       repeat (go_quiet (first | (go_at_call 94; (with_reducible refine (impl_NameOk.calls kj1 a0_4 t458 _ A47.out).mono ?_); rintro e w73 ⟨rfl, hb⟩; replace BK453 := Bb_ BK453 hb; replace HB := Hs_ HB hb; clear hb)); try go_wp2_with (first | (go_at_call 94; (with_reducible refine (impl_NameOk.calls kj1 a0_4 t458 _ A47.out).mono ?_); rintro e w73 ⟨rfl, hb⟩; replace BK453 := Bb_ BK453 hb; replace HB := Hs_ HB hb; clear hb)))
       go_ret
       exact ⟨Re_, Hf_ HB⟩
    ·rw [if_neg c30] at H
     have c30b0 := beq_eq_false_iff_ne.mpr c30
     have c30b1 := bne_iff_ne.mpr c30
     by_cases c74 : a0_0 = 1
     ·rw [if_pos c74] at H
      have c74b0 := beq_iff_eq.mpr c74
      have c74b1 := bne_eq_false_iff_eq.mpr c74
      clear c74
      obtain ⟨t461, A75, H⟩ := Bo_ H
      by_cases c76 : t461 = true
      ·subst c76
       rw [if_pos rfl] at H
       by_cases c77 : (a0_4.toList == ([] : List UInt8)) = true
       ·rw [if_pos c77] at H
        have c77b0 : (a0_4.toList == ([] : List UInt8)) = true := c77
        (try (have c77b9 : a0_4.toList.isEmpty = true := by simpa using c77))
        (try (have c77b1 : decide (a0_4.toList = ([] : List UInt8)) = true := by simpa using c77))
        (try (have c77b2 : (a0_4.toList == ([] : List UInt8)) = true := by simpa using c77))
        clear c77
        by_cases c78 : false = true
        ·exact absurd c78 (by decide)
        ·replace c78 := Bool.eq_false_iff.mpr c78
         clear c78
         rw [if_neg Ff_] at H
         by_cases c97 : a0_2.toList = ([] : List UInt8)
         ·rw [if_pos c97] at H
          have c97b0 := beq_iff_eq.mpr c97
          (try (have c97b9 : a0_2.toList.isEmpty = true := by simpa using c97))
          have c97b1 := bne_eq_false_iff_eq.mpr c97
          clear c97
          by_cases c98 : false = true
          ·exact absurd c98 (by decide)
          ·replace c98 := Bool.eq_false_iff.mpr c98
           clear c98
           rw [if_neg Ff_] at H
           obtain rfl := Option.some.inj H
           obtain ⟨hcz105_0, hcz105_1, hcz105_2, hcz105_3, hcz105_4, hcz105_5, hfz105_0, hfz105_1, hfz105_2, hfz105_3, hfz105_4, hfz105_5⟩ := Bc6_ BK453
           go_wp2_with (first | (go_at_call 79; (with_reducible refine (impl_within.calls a0_1 0 1000000 true _ A75.out).mono ?_); rintro e w' ⟨rfl, ⟨nd, rfl⟩⟩; (try first | exact ⟨rfl, _, World.drewN_drewN _ _ _⟩ | exact ⟨rfl, _, Eq.trans (World.drewN_drewN _ _ _) (congrArg (World.drewN _) (Nat.add_assoc _ _ _))⟩)))
           repeat (go_quiet (first | (go_at_call 79; (with_reducible refine (impl_within.calls a0_1 0 1000000 true _ A75.out).mono ?_); rintro e w' ⟨rfl, ⟨nd, rfl⟩⟩; (try first | exact ⟨rfl, _, World.drewN_drewN _ _ _⟩ | exact ⟨rfl, _, Eq.trans (World.drewN_drewN _ _ _) (congrArg (World.drewN _) (Nat.add_assoc _ _ _))⟩))); try go_wp2_with (first | (go_at_call 79; (with_reducible refine (impl_within.calls a0_1 0 1000000 true _ A75.out).mono ?_); rintro e w' ⟨rfl, ⟨nd, rfl⟩⟩; (try first | exact ⟨rfl, _, World.drewN_drewN _ _ _⟩ | exact ⟨rfl, _, Eq.trans (World.drewN_drewN _ _ _) (congrArg (World.drewN _) (Nat.add_assoc _ _ _))⟩))))
           go_ret
           exact ⟨Re_, Hf_ HB⟩
         ·rw [if_neg c97] at H
          have c97b0 := beq_eq_false_iff_ne.mpr c97
          (try (have c97b9 : a0_2.toList.isEmpty = false := by simpa using c97))
          have c97b1 := bne_iff_ne.mpr c97
          obtain rfl := Option.some.inj H
          obtain ⟨hcz106_0, hcz106_1, hcz106_2, hcz106_3, hcz106_4, hcz106_5, hfz106_0, hfz106_1, hfz106_2, hfz106_3, hfz106_4, hfz106_5⟩ := Bc6_ BK453
          go_wp2_with (first | (go_at_call 79; (with_reducible refine (impl_within.calls a0_1 0 1000000 true _ A75.out).mono ?_); rintro e w' ⟨rfl, ⟨nd, rfl⟩⟩; (try first | exact ⟨rfl, _, World.drewN_drewN _ _ _⟩ | exact ⟨rfl, _, Eq.trans (World.drewN_drewN _ _ _) (congrArg (World.drewN _) (Nat.add_assoc _ _ _))⟩)))
          repeat (go_quiet (first | (go_at_call 79; (with_reducible refine (impl_within.calls a0_1 0 1000000 true _ A75.out).mono ?_); rintro e w' ⟨rfl, ⟨nd, rfl⟩⟩; (try first | exact ⟨rfl, _, World.drewN_drewN _ _ _⟩ | exact ⟨rfl, _, Eq.trans (World.drewN_drewN _ _ _) (congrArg (World.drewN _) (Nat.add_assoc _ _ _))⟩))); try go_wp2_with (first | (go_at_call 79; (with_reducible refine (impl_within.calls a0_1 0 1000000 true _ A75.out).mono ?_); rintro e w' ⟨rfl, ⟨nd, rfl⟩⟩; (try first | exact ⟨rfl, _, World.drewN_drewN _ _ _⟩ | exact ⟨rfl, _, Eq.trans (World.drewN_drewN _ _ _) (congrArg (World.drewN _) (Nat.add_assoc _ _ _))⟩))))
          go_ret
          exact ⟨Re_, Hf_ HB⟩
       ·rw [if_neg c77] at H
        have c77b0 : (a0_4.toList == ([] : List UInt8)) = false := by simpa using c77
        (try (have c77b9 : a0_4.toList.isEmpty = false := by simpa using c77))
        (try (have c77b1 : decide (a0_4.toList = ([] : List UInt8)) = false := by simpa using c77))
        (try (have c77b2 : (a0_4.toList == ([] : List UInt8)) = false := by simpa using c77))
        (try (have c77b3 : ¬ (a0_4.toList = ([] : List UInt8)) := by simpa using c77))
        clear c77
        obtain rfl := Option.some.inj H
        obtain ⟨hcz107_0, hcz107_1, hcz107_2, hcz107_3, hcz107_4, hcz107_5, hfz107_0, hfz107_1, hfz107_2, hfz107_3, hfz107_4, hfz107_5⟩ := Bc6_ BK453
        go_wp2_with (first | (go_at_call 79; (with_reducible refine (impl_within.calls a0_1 0 1000000 true _ A75.out).mono ?_); rintro e w' ⟨rfl, ⟨nd, rfl⟩⟩; (try first | exact ⟨rfl, _, World.drewN_drewN _ _ _⟩ | exact ⟨rfl, _, Eq.trans (World.drewN_drewN _ _ _) (congrArg (World.drewN _) (Nat.add_assoc _ _ _))⟩)))
        repeat (go_quiet (first | (go_at_call 79; (with_reducible refine (impl_within.calls a0_1 0 1000000 true _ A75.out).mono ?_); rintro e w' ⟨rfl, ⟨nd, rfl⟩⟩; (try first | exact ⟨rfl, _, World.drewN_drewN _ _ _⟩ | exact ⟨rfl, _, Eq.trans (World.drewN_drewN _ _ _) (congrArg (World.drewN _) (Nat.add_assoc _ _ _))⟩))); try go_wp2_with (first | (go_at_call 79; (with_reducible refine (impl_within.calls a0_1 0 1000000 true _ A75.out).mono ?_); rintro e w' ⟨rfl, ⟨nd, rfl⟩⟩; (try first | exact ⟨rfl, _, World.drewN_drewN _ _ _⟩ | exact ⟨rfl, _, Eq.trans (World.drewN_drewN _ _ _) (congrArg (World.drewN _) (Nat.add_assoc _ _ _))⟩))))
        go_ret
        exact ⟨Re_, Hf_ HB⟩
      ·replace c76 := Bool.eq_false_iff.mpr c76
       subst c76
       rw [if_neg Ff_] at H
       obtain rfl := Option.some.inj H
       obtain ⟨hcz108_0, hcz108_1, hcz108_2, hcz108_3, hcz108_4, hcz108_5, hfz108_0, hfz108_1, hfz108_2, hfz108_3, hfz108_4, hfz108_5⟩ := Bc6_ BK453
       go_wp2_with (first | (go_at_call 79; (with_reducible refine (impl_within.calls a0_1 0 1000000 false _ A75.out).mono ?_); rintro e w' ⟨rfl, ⟨nd, rfl⟩⟩; (try first | exact ⟨rfl, _, World.drewN_drewN _ _ _⟩ | exact ⟨rfl, _, Eq.trans (World.drewN_drewN _ _ _) (congrArg (World.drewN _) (Nat.add_assoc _ _ _))⟩)))
       repeat (go_quiet (first | (go_at_call 79; (with_reducible refine (impl_within.calls a0_1 0 1000000 false _ A75.out).mono ?_); rintro e w' ⟨rfl, ⟨nd, rfl⟩⟩; (try first | exact ⟨rfl, _, World.drewN_drewN _ _ _⟩ | exact ⟨rfl, _, Eq.trans (World.drewN_drewN _ _ _) (congrArg (World.drewN _) (Nat.add_assoc _ _ _))⟩))); try go_wp2_with (first | (go_at_call 79; (with_reducible refine (impl_within.calls a0_1 0 1000000 false _ A75.out).mono ?_); rintro e w' ⟨rfl, ⟨nd, rfl⟩⟩; (try first | exact ⟨rfl, _, World.drewN_drewN _ _ _⟩ | exact ⟨rfl, _, Eq.trans (World.drewN_drewN _ _ _) (congrArg (World.drewN _) (Nat.add_assoc _ _ _))⟩))))
       go_ret
       exact ⟨Re_, Hf_ HB⟩
     ·rw [if_neg c74] at H
      have c74b0 := beq_eq_false_iff_ne.mpr c74
      have c74b1 := bne_iff_ne.mpr c74
      by_cases c109 : a0_0 = 3
      ·rw [if_pos c109] at H
       have c109b0 := beq_iff_eq.mpr c109
       have c109b1 := bne_eq_false_iff_eq.mpr c109
       clear c109
       obtain ⟨t465, A110, H⟩ := Bo_ H
       by_cases c111 : t465 = true
       ·subst c111
        rw [if_pos rfl] at H
        by_cases c112 : (a0_4.toList == ([] : List UInt8)) = true
        ·rw [if_pos c112] at H
         have c112b0 : (a0_4.toList == ([] : List UInt8)) = true := c112
         (try (have c112b9 : a0_4.toList.isEmpty = true := by simpa using c112))
         (try (have c112b1 : decide (a0_4.toList = ([] : List UInt8)) = true := by simpa using c112))
         (try (have c112b2 : (a0_4.toList == ([] : List UInt8)) = true := by simpa using c112))
         clear c112
         by_cases c113 : false = true
         ·exact absurd c113 (by decide)
         ·replace c113 := Bool.eq_false_iff.mpr c113
          clear c113
          rw [if_neg Ff_] at H
          by_cases c132 : a0_2.toList = ([] : List UInt8)
          ·rw [if_pos c132] at H
           have c132b0 := beq_iff_eq.mpr c132
           (try (have c132b9 : a0_2.toList.isEmpty = true := by simpa using c132))
           have c132b1 := bne_eq_false_iff_eq.mpr c132
           clear c132
           by_cases c133 : false = true
           ·exact absurd c133 (by decide)
           ·replace c133 := Bool.eq_false_iff.mpr c133
            clear c133
            rw [if_neg Ff_] at H
            obtain rfl := Option.some.inj H
            obtain ⟨hcz140_0, hcz140_1, hcz140_2, hcz140_3, hcz140_4, hcz140_5, hfz140_0, hfz140_1, hfz140_2, hfz140_3, hfz140_4, hfz140_5⟩ := Bc6_ BK453
            go_wp2_with (first | (go_at_call 79; (with_reducible refine (impl_within.calls a0_1 1 9 true _ A110.out).mono ?_); rintro e w' ⟨rfl, ⟨nd, rfl⟩⟩; (try first | exact ⟨rfl, _, World.drewN_drewN _ _ _⟩ | exact ⟨rfl, _, Eq.trans (World.drewN_drewN _ _ _) (congrArg (World.drewN _) (Nat.add_assoc _ _ _))⟩)))
            repeat (go_quiet (first | (go_at_call 79; (with_reducible refine (impl_within.calls a0_1 1 9 true _ A110.out).mono ?_); rintro e w' ⟨rfl, ⟨nd, rfl⟩⟩; (try first | exact ⟨rfl, _, World.drewN_drewN _ _ _⟩ | exact ⟨rfl, _, Eq.trans (World.drewN_drewN _ _ _) (congrArg (World.drewN _) (Nat.add_assoc _ _ _))⟩))); try go_wp2_with (first | (go_at_call 79; (with_reducible refine (impl_within.calls a0_1 1 9 true _ A110.out).mono ?_); rintro e w' ⟨rfl, ⟨nd, rfl⟩⟩; (try first | exact ⟨rfl, _, World.drewN_drewN _ _ _⟩ | exact ⟨rfl, _, Eq.trans (World.drewN_drewN _ _ _) (congrArg (World.drewN _) (Nat.add_assoc _ _ _))⟩))))
            go_ret
            exact ⟨Re_, Hf_ HB⟩
          ·rw [if_neg c132] at H
           have c132b0 := beq_eq_false_iff_ne.mpr c132
           (try (have c132b9 : a0_2.toList.isEmpty = false := by simpa using c132))
           have c132b1 := bne_iff_ne.mpr c132
           obtain rfl := Option.some.inj H
           obtain ⟨hcz141_0, hcz141_1, hcz141_2, hcz141_3, hcz141_4, hcz141_5, hfz141_0, hfz141_1, hfz141_2, hfz141_3, hfz141_4, hfz141_5⟩ := Bc6_ BK453
           go_wp2_with (first | (go_at_call 79; (with_reducible refine (impl_within.calls a0_1 1 9 true _ A110.out).mono ?_); rintro e w' ⟨rfl, ⟨nd, rfl⟩⟩; (try first | exact ⟨rfl, _, World.drewN_drewN _ _ _⟩ | exact ⟨rfl, _, Eq.trans (World.drewN_drewN _ _ _) (congrArg (World.drewN _) (Nat.add_assoc _ _ _))⟩)))
           repeat (go_quiet (first | (go_at_call 79; (with_reducible refine (impl_within.calls a0_1 1 9 true _ A110.out).mono ?_); rintro e w' ⟨rfl, ⟨nd, rfl⟩⟩; (try first | exact ⟨rfl, _, World.drewN_drewN _ _ _⟩ | exact ⟨rfl, _, Eq.trans (World.drewN_drewN _ _ _) (congrArg (World.drewN _) (Nat.add_assoc _ _ _))⟩))); try go_wp2_with (first | (go_at_call 79; (with_reducible refine (impl_within.calls a0_1 1 9 true _ A110.out).mono ?_); rintro e w' ⟨rfl, ⟨nd, rfl⟩⟩; (try first | exact ⟨rfl, _, World.drewN_drewN _ _ _⟩ | exact ⟨rfl, _, Eq.trans (World.drewN_drewN _ _ _) (congrArg (World.drewN _) (Nat.add_assoc _ _ _))⟩))))
           go_ret
           exact ⟨Re_, Hf_ HB⟩
        ·rw [if_neg c112] at H
         have c112b0 : (a0_4.toList == ([] : List UInt8)) = false := by simpa using c112
         (try (have c112b9 : a0_4.toList.isEmpty = false := by simpa using c112))
         (try (have c112b1 : decide (a0_4.toList = ([] : List UInt8)) = false := by simpa using c112))
         (try (have c112b2 : (a0_4.toList == ([] : List UInt8)) = false := by simpa using c112))
         (try (have c112b3 : ¬ (a0_4.toList = ([] : List UInt8)) := by simpa using c112))
         clear c112
         obtain rfl := Option.some.inj H
         obtain ⟨hcz142_0, hcz142_1, hcz142_2, hcz142_3, hcz142_4, hcz142_5, hfz142_0, hfz142_1, hfz142_2, hfz142_3, hfz142_4, hfz142_5⟩ := Bc6_ BK453
         go_wp2_with (first | (go_at_call 79; (with_reducible refine (impl_within.calls a0_1 1 9 true _ A110.out).mono ?_); rintro e w' ⟨rfl, ⟨nd, rfl⟩⟩; (try first | exact ⟨rfl, _, World.drewN_drewN _ _ _⟩ | exact ⟨rfl, _, Eq.trans (World.drewN_drewN _ _ _) (congrArg (World.drewN _) (Nat.add_assoc _ _ _))⟩)))
         repeat (go_quiet (first | (go_at_call 79; (with_reducible refine (impl_within.calls a0_1 1 9 true _ A110.out).mono ?_); rintro e w' ⟨rfl, ⟨nd, rfl⟩⟩; (try first | exact ⟨rfl, _, World.drewN_drewN _ _ _⟩ | exact ⟨rfl, _, Eq.trans (World.drewN_drewN _ _ _) (congrArg (World.drewN _) (Nat.add_assoc _ _ _))⟩))); try go_wp2_with (first | (go_at_call 79; (with_reducible refine (impl_within.calls a0_1 1 9 true _ A110.out).mono ?_); rintro e w' ⟨rfl, ⟨nd, rfl⟩⟩; (try first | exact ⟨rfl, _, World.drewN_drewN _ _ _⟩ | exact ⟨rfl, _, Eq.trans (World.drewN_drewN _ _ _) (congrArg (World.drewN _) (Nat.add_assoc _ _ _))⟩))))
         go_ret
         exact ⟨Re_, Hf_ HB⟩
       ·replace c111 := Bool.eq_false_iff.mpr c111
        subst c111
        rw [if_neg Ff_] at H
        obtain rfl := Option.some.inj H
        obtain ⟨hcz143_0, hcz143_1, hcz143_2, hcz143_3, hcz143_4, hcz143_5, hfz143_0, hfz143_1, hfz143_2, hfz143_3, hfz143_4, hfz143_5⟩ := Bc6_ BK453
        go_wp2_with (first | (go_at_call 79; (with_reducible refine (impl_within.calls a0_1 1 9 false _ A110.out).mono ?_); rintro e w' ⟨rfl, ⟨nd, rfl⟩⟩; (try first | exact ⟨rfl, _, World.drewN_drewN _ _ _⟩ | exact ⟨rfl, _, Eq.trans (World.drewN_drewN _ _ _) (congrArg (World.drewN _) (Nat.add_assoc _ _ _))⟩)))
        repeat (go_quiet (first | (go_at_call 79; (with_reducible refine (impl_within.calls a0_1 1 9 false _ A110.out).mono ?_); rintro e w' ⟨rfl, ⟨nd, rfl⟩⟩; (try first | exact ⟨rfl, _, World.drewN_drewN _ _ _⟩ | exact ⟨rfl, _, Eq.trans (World.drewN_drewN _ _ _) (congrArg (World.drewN _) (Nat.add_assoc _ _ _))⟩))); try go_wp2_with (first | (go_at_call 79; (with_reducible refine (impl_within.calls a0_1 1 9 false _ A110.out).mono ?_); rintro e w' ⟨rfl, ⟨nd, rfl⟩⟩; (try first | exact ⟨rfl, _, World.drewN_drewN _ _ _⟩ | exact ⟨rfl, _, Eq.trans (World.drewN_drewN _ _ _) (congrArg (World.drewN _) (Nat.add_assoc _ _ _))⟩))))
        go_ret
        exact ⟨Re_, Hf_ HB⟩
      ·rw [if_neg c109] at H
       have c109b0 := beq_eq_false_iff_ne.mpr c109
       have c109b1 := bne_iff_ne.mpr c109
       by_cases c144 : (a0_1 == 0) = true
       ·rw [if_pos c144] at H
        have c144b0 : (a0_1 == 0) = true := c144
        (try (have c144b1 : decide (a0_1 = 0) = true := by simpa using c144))
        (try (have c144b2 : (a0_1 == 0) = true := by simpa using c144))
        clear c144
        by_cases c145 : (a0_4.toList == ([] : List UInt8)) = true
        ·rw [if_pos c145] at H
         have c145b0 : (a0_4.toList == ([] : List UInt8)) = true := c145
         (try (have c145b9 : a0_4.toList.isEmpty = true := by simpa using c145))
         (try (have c145b1 : decide (a0_4.toList = ([] : List UInt8)) = true := by simpa using c145))
         (try (have c145b2 : (a0_4.toList == ([] : List UInt8)) = true := by simpa using c145))
         clear c145
         by_cases c146 : false = true
         ·exact absurd c146 (by decide)
         ·replace c146 := Bool.eq_false_iff.mpr c146
          clear c146
          rw [if_neg Ff_] at H
          by_cases c165 : a0_2.toList = ([] : List UInt8)
          ·rw [if_pos c165] at H
           have c165b0 := beq_iff_eq.mpr c165
           (try (have c165b9 : a0_2.toList.isEmpty = true := by simpa using c165))
           have c165b1 := bne_eq_false_iff_eq.mpr c165
           clear c165
           by_cases c166 : false = true
           ·exact absurd c166 (by decide)
           ·replace c166 := Bool.eq_false_iff.mpr c166
            clear c166
            rw [if_neg Ff_] at H
            obtain rfl := Option.some.inj H
            obtain ⟨hcz173_0, hcz173_1, hcz173_2, hcz173_3, hcz173_4, hcz173_5, hfz173_0, hfz173_1, hfz173_2, hfz173_3, hfz173_4, hfz173_5⟩ := Bc6_ BK453
            go_wp2
            repeat (go_quiet (fail); try go_wp2)
            go_ret
            exact ⟨Re_, Hf_ HB⟩
          ·rw [if_neg c165] at H
           have c165b0 := beq_eq_false_iff_ne.mpr c165
           (try (have c165b9 : a0_2.toList.isEmpty = false := by simpa using c165))
           have c165b1 := bne_iff_ne.mpr c165
           obtain rfl := Option.some.inj H
           obtain ⟨hcz174_0, hcz174_1, hcz174_2, hcz174_3, hcz174_4, hcz174_5, hfz174_0, hfz174_1, hfz174_2, hfz174_3, hfz174_4, hfz174_5⟩ := Bc6_ BK453
           go_wp2
           repeat (go_quiet (fail); try go_wp2)
           go_ret
           exact ⟨Re_, Hf_ HB⟩
        ·rw [if_neg c145] at H
         have c145b0 : (a0_4.toList == ([] : List UInt8)) = false := by simpa using c145
         (try (have c145b9 : a0_4.toList.isEmpty = false := by simpa using c145))
         (try (have c145b1 : decide (a0_4.toList = ([] : List UInt8)) = false := by simpa using c145))
         (try (have c145b2 : (a0_4.toList == ([] : List UInt8)) = false := by simpa using c145))
         (try (have c145b3 : ¬ (a0_4.toList = ([] : List UInt8)) := by simpa using c145))
         clear c145
         obtain rfl := Option.some.inj H
         go_wp2
         repeat (go_quiet (fail); try go_wp2)
         go_ret
         exact ⟨Re_, Hf_ HB⟩
       ·rw [if_neg c144] at H
        have c144b0 : (a0_1 == 0) = false := by simpa using c144
        (try (have c144b1 : decide (a0_1 = 0) = false := by simpa using c144))
        (try (have c144b2 : (a0_1 == 0) = false := by simpa using c144))
        (try (have c144b3 : ¬ (a0_1 = 0) := by simpa using c144))
        clear c144
        obtain rfl := Option.some.inj H
        go_wp2
        repeat (go_quiet (fail); try go_wp2)
        go_ret
        exact ⟨Re_, Hf_ HB⟩

end Go.Proofs.Ytmbkcbgbienjoaa.PFnExactValueOf
