/- The machine side of the law FnExactValueOf: for each function that it reaches, a Lean function and its contract. Written by a program of this session's over the kit's print. No condition. -/
import Derived.Test.YtmbkcbgbienjoaaCmq
import Derived.Test.YtmbkcbgbienjoaaPFnExactValueOfx0
import Derived.Test.YtmbkcbgbienjoaaPFnExactValueOfx16
import Derived.Test.YtmbkcbgbienjoaaPFnExactValueOfx21
import Derived.Test.YtmbkcbgbienjoaaPFnExactValueOfx22
namespace Go.Proofs.Ytmbkcbgbienjoaa.PFnExactValueOf
open Go.RowKit Go.Proofs.YtmbkcbgbienjoaaW.PrintWords Go.Proofs.YtmbkcbgbienjoaaW.PrintLast Go.Proofs.YtmbkcbgbienjoaaW.PrintMore Go.Proofs.Ytmbkcbgbienjoaa.Cmp
attribute [local go_sem] max2_int min2_int max_two min_two max_three min_three max_four min_four   -- for this text's walks alone
set_option linter.unusedVariables false
set_option maxHeartbeats 8000000
set_option maxRecDepth 100000
set_option linter.unusedSimpArgs false

/-! ### impl_ValueOf: function 50 -/
mutual
def impl_ValueOf.j0 : Nat → Int → Bool → List (S77) → List (S106) → List (S103) → List ByteArray → List Int → Option (Int × Int)
 | 0, _, _, _, _, _, _, _ => none
 | k + 1, x1, x21, x538000, x538001, x538002, x539000, x539001 => if x21 = true then (some (0, 1)) else (if 0 ≤ x1 then (if x1 < (x538000.length : Int) then (if ((rd_T77 x538000 x1).f0) = 1 then ((impl_ValOk.f ((rd_T77 x538000 x1).f1)).bind fun t543 => (if t543 = true then (some ((rd_T77 x538000 x1).f1, 0)) else (some (0, 1)))) else (if ((rd_T77 x538000 x1).f0) = 2 then ((impl_GetIn.f k x539000 x539001 ((rd_T77 x538000 x1).f2)).bind fun t544 => (some (t544, 0))) else ((impl_kidAt.f x538000 x538001 x538002 x1 0).bind fun t545 => ((impl_ValueOf.f k x538000 x538001 x538002 t545 x539000 x539001).bind fun bt546 => (if bt546.2 = 0 then (if ((rd_T77 x538000 x1).f0) = 4 then ((impl_Denied.f bt546.1).bind fun t548 => (some (t548, 0))) else (if ((rd_T77 x538000 x1).f0) = 5 then ((impl_Negated.f bt546.1).bind fun bt549 => (some (bt549.1, bt549.2))) else ((impl_kidAt.f x538000 x538001 x538002 x1 1).bind fun t551 => ((impl_ValueOf.f k x538000 x538001 x538002 t551 x539000 x539001).bind fun bt552 => (if bt552.2 = 0 then ((impl_Calc.f k ((rd_T77 x538000 x1).f1) bt546.1 bt552.1).bind fun bt554 => (some (bt554.1, bt554.2))) else (some (0, bt552.2))))))) else (some (0, bt546.2))))))) else (none)) else (none))
def impl_ValueOf.f : Nat → List (S77) → List (S106) → List (S103) → Int → List ByteArray → List Int → Option (Int × Int)
 | 0, _, _, _, _, _, _ => none
 | k + 1, l0_0, l0_1, l0_2, a1, l2_0, l2_1 => (impl_isValue.f l0_0 l0_1 l0_2 a1).bind fun t539 => (if t539 = true then ((impl_DeepOf.f k l0_0 l0_1 l0_2 a1).bind fun t540 => (impl_ValueOf.j0 k a1 (t540 == 0) l0_0 l0_1 l0_2 l2_0 l2_1)) else (impl_ValueOf.j0 k a1 true l0_0 l0_1 l0_2 l2_0 l2_1))
end
def impl_ValueOf.T11 : Bool × List (List Nat × List Nat) := (true, [([], []), ([], []), ([], []), ([1, 2], [1, 2]), ([], []), ([0, 3, 4, 3], [0, 3, 4]), ([5], [5]), ([6], [6]), ([6], [6]), ([7, 5, 0, 1, 2, 3, 4, 5, 6, 7], [7]), ([8, 9, 0, 1, 2, 3, 4, 5, 6, 7, 8, 9], [8])])
def impl_ValueOf.B11 : List Nat := [0, 0, 0, 6, 0, 31, 63, 127, 127, 255, 1023]
theorem impl_ValueOf.tab11 : rtab .any (opsOf Try.f50 11) = impl_ValueOf.T11 := by kernel_rfl
theorem impl_ValueOf.bits11 : waitsOk impl_ValueOf.T11.2 impl_ValueOf.B11 = true := by kernel_rfl
def impl_ValueOf.T19 : Bool × List (List Nat × List Nat) := (true, [([], []), ([], []), ([], []), ([1, 2], [1, 2]), ([], []), ([0, 3, 4, 3], [0, 3, 4]), ([5], [5]), ([6], [6]), ([6], [6]), ([7, 5, 0, 1, 2, 3, 4, 5, 6, 7], [7]), ([8, 9, 0, 1, 2, 3, 4, 5, 6, 7, 8, 9], [8])])
def impl_ValueOf.B19 : List Nat := [0, 0, 0, 6, 0, 31, 63, 127, 127, 255, 1023]
theorem impl_ValueOf.tab19 : rtab .any (opsOf Try.f50 19) = impl_ValueOf.T19 := by kernel_rfl
theorem impl_ValueOf.bits19 : waitsOk impl_ValueOf.T19.2 impl_ValueOf.B19 = true := by kernel_rfl
theorem impl_ValueOf.calls (k : Nat) : ∀ (A0_0 : Option Addr) (c0_0 : Nat) (l0_0 : List (S77)) (A0_1 : Option Addr) (c0_1 : Nat) (l0_1 : List (S106)) (A0_2 : Option Addr) (c0_2 : Nat) (l0_2 : List (S103)) (a1 : Int) (A2_0 : Option Addr) (c2_0 : Nat) (l2_0 : List ByteArray) (A2_1 : Option Addr) (c2_1 : Nat) (l2_1 : List Int) (r1 : Int) (r2 : Int) (w : World) (hr0_0 : Kd.C k77 w A0_0 l0_0.length l0_0) (hc0_0 : l0_0.length ≤ c0_0) (hr0_1 : Kd.C k106 w A0_1 l0_1.length l0_1) (hc0_1 : l0_1.length ≤ c0_1) (hr0_2 : Kd.C k103 w A0_2 l0_2.length l0_2) (hc0_2 : l0_2.length ≤ c0_2) (hr2_0 : Kd.C Kd.string w A2_0 l2_0.length l2_0) (hc2_0 : l2_0.length ≤ c2_0) (hr2_1 : Kd.C (Kd.int .i64) w A2_1 l2_1.length l2_1) (hc2_1 : l2_1.length ≤ c2_1) (h : impl_ValueOf.f k l0_0 l0_1 l0_2 a1 l2_0 l2_1 = some (r1, r2)),
  Calls Try.prog 50 #[.agg #[.slice A0_0 l0_0.length c0_0, .slice A0_1 l0_1.length c0_1, .slice A0_2 l0_2.length c0_2], .int .i64 a1, .agg #[.slice A2_0 l2_0.length c2_0, .slice A2_1 l2_1.length c2_1]] w fun e w' => e = .returned (.tuple #[.int .i64 r1, .int .i64 r2]) ∧ Below w.heap.size w w' := by
 induction k using Nat.strongRecOn with
 | _ k ih =>
 intro A0_0 c0_0 l0_0 A0_1 c0_1 l0_1 A0_2 c0_2 l0_2 a1 A2_0 c2_0 l2_0 A2_1 c2_1 l2_1 r1 r2 w hr0_0 hc0_0 hr0_1 hc0_1 hr0_2 hc0_2 hr2_0 hc2_0 hr2_1 hc2_1 h
 cases k with
 | zero => exact absurd h (by simp [impl_ValueOf.f])
 | succ k =>
 simp only [impl_ValueOf.f] at h
 have hu40 := Try.underlying40
 have hu42 := Try.underlying42
 have hu77 := Try.underlying77
 have HR0_0 := Aside0.mk hr0_0
 have HC0_0 := Aside0.mk hc0_0
 clear hr0_0 hc0_0
 have HR0_1 := Aside0.mk hr0_1
 have HC0_1 := Aside0.mk hc0_1
 clear hr0_1 hc0_1
 have HR0_2 := Aside0.mk hr0_2
 have HC0_2 := Aside0.mk hc0_2
 clear hr0_2 hc0_2
 have HR2_0 := Aside0.mk hr2_0
 have HC2_0 := Aside0.mk hc2_0
 clear hr2_0 hc2_0
 have HR2_1 := Aside0.mk hr2_1
 have HC2_1 := Aside0.mk hc2_1
 clear hr2_1 hc2_1
 have HB := Aside0.mk (Below.refl w.heap.size w)
 have H : ((impl_isValue.f l0_0 l0_1 l0_2 a1).bind fun t539 => (if t539 = true then ((impl_DeepOf.f k l0_0 l0_1 l0_2 a1).bind fun t540 => (impl_ValueOf.j0 k a1 (t540 == 0) l0_0 l0_1 l0_2 l2_0 l2_1)) else (impl_ValueOf.j0 k a1 true l0_0 l0_1 l0_2 l2_0 l2_1))) = some (r1, r2) := h
 clear h
 have HC4 := Aside0.mk H
 clear H
 go_enter Try.func50, Try.ntmps50
 go_upto_region 1 with (first | (refine Bv_ 3 #[.slice A0_0 l0_0.length c0_0, .slice A0_1 l0_1.length c0_1, .slice A0_2 l0_2.length c0_2] 40 ?_; intro gb537 hg w5 BK537 hb; have GW537 := Hg_ HB hg; replace HB := Hs_ HB hb; clear hb hg) | (refine Bv_ 5 #[.slice A2_0 l2_0.length c2_0, .slice A2_1 l2_1.length c2_1] 42 ?_; intro gb538 hg w6 BK538 hb; have GW538 := Hg_ HB hg; have NB537_538 := Bl_ BK537 hg; have NB538_537 := Bm_ NB537_538; replace BK537 := Bb_ BK537 hb; replace HB := Hs_ HB hb; clear hb hg))
 (try simp only [Act.put, List.setIfInBounds_toArray, List.set_cons_zero, List.set_cons_succ])
 go_cut [21] (fun v21 wc => ∃ (kq : Nat) (x21_3 : Bool), v21 = .bool x21_3 ∧ Aside0 (impl_ValueOf.j0 kq a1 x21_3 l0_0 l0_1 l0_2 l2_0 l2_1 = some (r1, r2)) ∧ Aside0 (kq ≤ k) ∧ Aside0 (wc.heap[gb537]? = some (.cells #[(.slice A0_0 l0_0.length c0_0), (.slice A0_1 l0_1.length c0_1), (.slice A0_2 l0_2.length c0_2)] 40 (0, 0))) ∧ Aside0 (wc.heap[gb538]? = some (.cells #[(.slice A2_0 l2_0.length c2_0), (.slice A2_1 l2_1.length c2_1)] 42 (0, 0))) ∧ Aside0 (Below w.heap.size w wc))
 case first =>
  have H := HC4.out
  clear HC4
  obtain ⟨t539, A7, H⟩ := Bo_ H
  by_cases c8 : t539 = true
  ·subst c8
   rw [if_pos rfl] at H
   obtain ⟨t540, A9, H⟩ := Bo_ H
   have H' := Aside0.mk H
   clear H
   have hnb10 := NB537_538.out
   have hnc10 := NB538_537.out
   obtain ⟨hcz11_0, hcz11_1, hcz11_2, hfz11_0, hfz11_1, hfz11_2⟩ := Bc3_ BK537
   go_wp2_with (first | (refine Gl_ (some 14) Try.func102 ((impl_isValue.calls _ _ l0_0 _ _ l0_1 _ _ l0_2 a1 true _ (Sc_ HR0_0 HB) HC0_0.out (Sc_ HR0_1 HB) HC0_1.out (Sc_ HR0_2 HB) HC0_2.out A7.out).mono ?_); rintro e w12 ⟨rfl, hb⟩; refine ⟨_, rfl, ?_⟩; replace BK537 := Bb_ BK537 hb; replace BK538 := Bb_ BK538 hb; replace HB := Hs_ HB hb; clear hb; obtain ⟨hcz13_0, hcz13_1, hcz13_2, hfz13_0, hfz13_1, hfz13_2⟩ := Bc3_ BK537) | (go_at_call 38; (refine (impl_DeepOf.calls k _ _ l0_0 _ _ l0_1 _ _ l0_2 a1 t540 _ (Sc_ HR0_0 HB) HC0_0.out (Sc_ HR0_1 HB) HC0_1.out (Sc_ HR0_2 HB) HC0_2.out A9.out).mono ?_); rintro e w14 ⟨rfl, hb⟩; replace BK537 := Bb_ BK537 hb; replace BK538 := Bb_ BK538 hb; replace HB := Hs_ HB hb; clear hb))
   go_meet
   case rel => exact ⟨_, ((t540 == 0)), Rr_, H', ⟨by first | omega | exact Nat.le_refl _⟩, ⟨Bq_ BK537⟩, ⟨Bq_ BK538⟩, ⟨Hf_ HB⟩⟩
  ·replace c8 := Bool.eq_false_iff.mpr c8
   subst c8
   rw [if_neg Ff_] at H
   have H' := Aside0.mk H
   clear H
   have hnb15 := NB537_538.out
   have hnc15 := NB538_537.out
   obtain ⟨hcz16_0, hcz16_1, hcz16_2, hfz16_0, hfz16_1, hfz16_2⟩ := Bc3_ BK537
   go_wp2_with (first | (refine Gl_ (some 14) Try.func102 ((impl_isValue.calls _ _ l0_0 _ _ l0_1 _ _ l0_2 a1 false _ (Sc_ HR0_0 HB) HC0_0.out (Sc_ HR0_1 HB) HC0_1.out (Sc_ HR0_2 HB) HC0_2.out A7.out).mono ?_); rintro e w17 ⟨rfl, hb⟩; refine ⟨_, rfl, ?_⟩; replace BK537 := Bb_ BK537 hb; replace BK538 := Bb_ BK538 hb; replace HB := Hs_ HB hb; clear hb))
   go_meet
   case rel => exact ⟨_, (true), Rr_, H', ⟨by first | omega | exact Nat.le_refl _⟩, ⟨Bq_ BK537⟩, ⟨Bq_ BK538⟩, ⟨Hf_ HB⟩⟩
 case rest =>
  clear HC4
  obtain ⟨kq, x21_3, rfl, HA, HJ3, BK537, BK538, HB⟩ := hcut
  cases kq with
  | zero => exact absurd HA.out (by simp [impl_ValueOf.j0])
  | succ kj3 =>
   have H := HA.out
   clear HA
   simp only [impl_ValueOf.j0] at H
   by_cases c18 : x21_3 = true
   ·subst c18
    rw [if_pos rfl] at H
    simp only [Option.some.injEq, Prod.mk.injEq] at H
    obtain ⟨rfl, rfl⟩ := H
    go_wp2
    go_ret2
    exact ⟨Re_, Hf_ HB⟩
   ·replace c18 := Bool.eq_false_iff.mpr c18
    subst c18
    rw [if_neg Ff_] at H
    by_cases c19 : 0 ≤ a1
    ·rw [if_pos c19] at H
     have c19b0 := decide_eq_true c19
     clear c19
     by_cases c20 : a1 < (l0_0.length : Int)
     ·rw [if_pos c20] at H
      have c20b0 := decide_eq_true c20
      clear c20
      by_cases c21 : ((rd_T77 l0_0 a1).f0) = 1
      ·rw [if_pos c21] at H
       have c21b0 := beq_iff_eq.mpr c21
       have c21b1 := bne_eq_false_iff_eq.mpr c21
       clear c21
       obtain ⟨t543, A22, H⟩ := Bo_ H
       by_cases c23 : t543 = true
       ·subst c23
        rw [if_pos rfl] at H
        simp only [Option.some.injEq, Prod.mk.injEq] at H
        obtain ⟨rfl, rfl⟩ := H
        have hnb24 := NB537_538.out
        have hnc24 := NB538_537.out
        obtain ⟨hcz25_0, hcz25_1, hcz25_2, hfz25_0, hfz25_1, hfz25_2⟩ := Bc3_ BK537
        have p541 : 0 ≤ (a1 : Int) := of_decide_eq_true As_
        have q541 : a1 < (l0_0.length : Int) := of_decide_eq_true As_
        obtain ⟨ad541, A541_5, c541_5, e541, hx541_0, hx541_1, hx541_2, hx541_3, hx541_4, hx541_5, hl541_5, hi541_5⟩ := at_T77 HR0_0.out a1 p541 q541
        cases e541
        replace hx541_0 := Bw_ hx541_0 HB
        replace hx541_1 := Bw_ hx541_1 HB
        replace hx541_2 := Bw_ hx541_2 HB
        replace hx541_3 := Bw_ hx541_3 HB
        replace hx541_4 := Bw_ hx541_4 HB
        replace hx541_5 := Bw_ hx541_5 HB
        have HR541_5 := Aside0.mk hi541_5
        have HC541_5 := Aside0.mk hl541_5
        clear hi541_5 hl541_5
        replace p541 := eq_true p541
        replace q541 := eq_true q541
        go_wp2_with (first | (refine Bv_ 8 #[.int .i64 0, .int .i64 0, .string (⟨#[]⟩ : ByteArray), .string (⟨#[]⟩ : ByteArray), .string (⟨#[]⟩ : ByteArray), .slice none 0 0] 77 ?_; intro gb542 hg w26 BK542 hb; have GW542 := Hg_ HB hg; have NB537_542 := Bl_ BK537 hg; have NB542_537 := Bm_ NB537_542; have NB538_542 := Bl_ BK538 hg; have NB542_538 := Bm_ NB538_542; replace BK537 := Bb_ BK537 hb; replace BK538 := Bb_ BK538 hb; replace HB := Hs_ HB hb; clear hb hg; have hnb27 := NB542_537.out; have hnc27 := NB537_542.out; have hnb28 := NB542_538.out; have hnc28 := NB538_542.out; obtain ⟨hcz29_0, hcz29_1, hcz29_2, hcz29_3, hcz29_4, hcz29_5, hfz29_0, hfz29_1, hfz29_2, hfz29_3, hfz29_4, hfz29_5⟩ := Bc6_ BK542) | (refine Gl_ (some 33) Try.func103 ((impl_ValOk.calls ((rd_T77 l0_0 a1).f1) true _ A22.out).mono ?_); rintro e w' ⟨rfl, ⟨nd, rfl⟩⟩; refine ⟨_, rfl, ?_⟩))
        go_ret2
        exact ⟨Re_, Hf_ HB⟩
       ·replace c23 := Bool.eq_false_iff.mpr c23
        subst c23
        rw [if_neg Ff_] at H
        simp only [Option.some.injEq, Prod.mk.injEq] at H
        obtain ⟨rfl, rfl⟩ := H
        have hnb30 := NB537_538.out
        have hnc30 := NB538_537.out
        obtain ⟨hcz31_0, hcz31_1, hcz31_2, hfz31_0, hfz31_1, hfz31_2⟩ := Bc3_ BK537
        have p541 : 0 ≤ (a1 : Int) := of_decide_eq_true As_
        have q541 : a1 < (l0_0.length : Int) := of_decide_eq_true As_
        obtain ⟨ad541, A541_5, c541_5, e541, hx541_0, hx541_1, hx541_2, hx541_3, hx541_4, hx541_5, hl541_5, hi541_5⟩ := at_T77 HR0_0.out a1 p541 q541
        cases e541
        replace hx541_0 := Bw_ hx541_0 HB
        replace hx541_1 := Bw_ hx541_1 HB
        replace hx541_2 := Bw_ hx541_2 HB
        replace hx541_3 := Bw_ hx541_3 HB
        replace hx541_4 := Bw_ hx541_4 HB
        replace hx541_5 := Bw_ hx541_5 HB
        have HR541_5 := Aside0.mk hi541_5
        have HC541_5 := Aside0.mk hl541_5
        clear hi541_5 hl541_5
        replace p541 := eq_true p541
        replace q541 := eq_true q541
        go_wp2_with (first | (refine Bv_ 8 #[.int .i64 0, .int .i64 0, .string (⟨#[]⟩ : ByteArray), .string (⟨#[]⟩ : ByteArray), .string (⟨#[]⟩ : ByteArray), .slice none 0 0] 77 ?_; intro gb542 hg w32 BK542 hb; have GW542 := Hg_ HB hg; have NB537_542 := Bl_ BK537 hg; have NB542_537 := Bm_ NB537_542; have NB538_542 := Bl_ BK538 hg; have NB542_538 := Bm_ NB538_542; replace BK537 := Bb_ BK537 hb; replace BK538 := Bb_ BK538 hb; replace HB := Hs_ HB hb; clear hb hg; have hnb33 := NB542_537.out; have hnc33 := NB537_542.out; have hnb34 := NB542_538.out; have hnc34 := NB538_542.out; obtain ⟨hcz35_0, hcz35_1, hcz35_2, hcz35_3, hcz35_4, hcz35_5, hfz35_0, hfz35_1, hfz35_2, hfz35_3, hfz35_4, hfz35_5⟩ := Bc6_ BK542) | (refine Gl_ (some 33) Try.func103 ((impl_ValOk.calls ((rd_T77 l0_0 a1).f1) false _ A22.out).mono ?_); rintro e w' ⟨rfl, ⟨nd, rfl⟩⟩; refine ⟨_, rfl, ?_⟩))
        go_ret2
        exact ⟨Re_, Hf_ HB⟩
      ·rw [if_neg c21] at H
       have c21b0 := beq_eq_false_iff_ne.mpr c21
       have c21b1 := bne_iff_ne.mpr c21
       by_cases c36 : ((rd_T77 l0_0 a1).f0) = 2
       ·rw [if_pos c36] at H
        have c36b0 := beq_iff_eq.mpr c36
        have c36b1 := bne_eq_false_iff_eq.mpr c36
        clear c36
        obtain ⟨t544, A37, H⟩ := Bo_ H
        simp only [Option.some.injEq, Prod.mk.injEq] at H
        obtain ⟨rfl, rfl⟩ := H
        have hnb38 := NB537_538.out
        have hnc38 := NB538_537.out
        obtain ⟨hcz39_0, hcz39_1, hcz39_2, hfz39_0, hfz39_1, hfz39_2⟩ := Bc3_ BK537
        have p541 : 0 ≤ (a1 : Int) := of_decide_eq_true As_
        have q541 : a1 < (l0_0.length : Int) := of_decide_eq_true As_
        obtain ⟨ad541, A541_5, c541_5, e541, hx541_0, hx541_1, hx541_2, hx541_3, hx541_4, hx541_5, hl541_5, hi541_5⟩ := at_T77 HR0_0.out a1 p541 q541
        cases e541
        replace hx541_0 := Bw_ hx541_0 HB
        replace hx541_1 := Bw_ hx541_1 HB
        replace hx541_2 := Bw_ hx541_2 HB
        replace hx541_3 := Bw_ hx541_3 HB
        replace hx541_4 := Bw_ hx541_4 HB
        replace hx541_5 := Bw_ hx541_5 HB
        have HR541_5 := Aside0.mk hi541_5
        have HC541_5 := Aside0.mk hl541_5
        clear hi541_5 hl541_5
        replace p541 := eq_true p541
        replace q541 := eq_true q541
        go_wp2_with (first | (refine Bv_ 8 #[.int .i64 0, .int .i64 0, .string (⟨#[]⟩ : ByteArray), .string (⟨#[]⟩ : ByteArray), .string (⟨#[]⟩ : ByteArray), .slice none 0 0] 77 ?_; intro gb542 hg w40 BK542 hb; have GW542 := Hg_ HB hg; have NB537_542 := Bl_ BK537 hg; have NB542_537 := Bm_ NB537_542; have NB538_542 := Bl_ BK538 hg; have NB542_538 := Bm_ NB538_542; replace BK537 := Bb_ BK537 hb; replace BK538 := Bb_ BK538 hb; replace HB := Hs_ HB hb; clear hb hg; have hnb41 := NB542_537.out; have hnc41 := NB537_542.out; have hnb42 := NB542_538.out; have hnc42 := NB538_542.out; obtain ⟨hcz43_0, hcz43_1, hcz43_2, hcz43_3, hcz43_4, hcz43_5, hfz43_0, hfz43_1, hfz43_2, hfz43_3, hfz43_4, hfz43_5⟩ := Bc6_ BK542; obtain ⟨hcz44_0, hcz44_1, hfz44_0, hfz44_1⟩ := Bc2_ BK538) | (refine Gl_ (some 42) Try.func104 ((impl_GetIn.calls kj3 _ _ l2_0 _ _ l2_1 ((rd_T77 l0_0 a1).f2) t544 _ (Kd.C_below HR2_0.out (Hf_ HB)) HC2_0.out (Kd.C_below HR2_1.out (Hf_ HB)) HC2_1.out A37.out).mono ?_); rintro e w45 ⟨rfl, hb⟩; refine ⟨_, rfl, ?_⟩; replace BK537 := Aside0.mk (blk_below (g := gb537) (o := .cells #[.slice (some ad541) l0_0.length c0_0, .slice A0_1 l0_1.length c0_1, .slice A0_2 l0_2.length c0_2] 40 (0, 0)) (by (with_reducible repeat (first | refine blk_drewN ?_ _ | refine blk_drew ?_ | refine blk_alloc ?_ _)); refine blk_far ?_ NB537_542.out _; (with_reducible repeat (first | refine blk_drewN ?_ _ | refine blk_drew ?_ | refine blk_alloc ?_ _)); refine blk_far ?_ NB537_542.out _; (with_reducible repeat (first | refine blk_drewN ?_ _ | refine blk_drew ?_ | refine blk_alloc ?_ _)); refine blk_far ?_ NB537_542.out _; (with_reducible repeat (first | refine blk_drewN ?_ _ | refine blk_drew ?_ | refine blk_alloc ?_ _)); refine blk_far ?_ NB537_542.out _; (with_reducible repeat (first | refine blk_drewN ?_ _ | refine blk_drew ?_ | refine blk_alloc ?_ _)); refine blk_far ?_ NB537_542.out _; (with_reducible repeat (first | refine blk_drewN ?_ _ | refine blk_drew ?_ | refine blk_alloc ?_ _)); refine blk_far ?_ NB537_542.out _; (with_reducible repeat (first | refine blk_drewN ?_ _ | refine blk_drew ?_ | refine blk_alloc ?_ _)); exact BK537.out) hb); replace BK538 := Aside0.mk (blk_below (g := gb538) (o := .cells #[.slice A2_0 l2_0.length c2_0, .slice A2_1 l2_1.length c2_1] 42 (0, 0)) (by (with_reducible repeat (first | refine blk_drewN ?_ _ | refine blk_drew ?_ | refine blk_alloc ?_ _)); refine blk_far ?_ NB538_542.out _; (with_reducible repeat (first | refine blk_drewN ?_ _ | refine blk_drew ?_ | refine blk_alloc ?_ _)); refine blk_far ?_ NB538_542.out _; (with_reducible repeat (first | refine blk_drewN ?_ _ | refine blk_drew ?_ | refine blk_alloc ?_ _)); refine blk_far ?_ NB538_542.out _; (with_reducible repeat (first | refine blk_drewN ?_ _ | refine blk_drew ?_ | refine blk_alloc ?_ _)); refine blk_far ?_ NB538_542.out _; (with_reducible repeat (first | refine blk_drewN ?_ _ | refine blk_drew ?_ | refine blk_alloc ?_ _)); refine blk_far ?_ NB538_542.out _; (with_reducible repeat (first | refine blk_drewN ?_ _ | refine blk_drew ?_ | refine blk_alloc ?_ _)); refine blk_far ?_ NB538_542.out _; (with_reducible repeat (first | refine blk_drewN ?_ _ | refine blk_drew ?_ | refine blk_alloc ?_ _)); exact BK538.out) hb); replace BK542 := Aside0.mk (blk_below (g := gb542) (o := .cells #[.int .i64 ((rd_T77 l0_0 a1).f0), .int .i64 ((rd_T77 l0_0 a1).f1), .string ((rd_T77 l0_0 a1).f2), .string ((rd_T77 l0_0 a1).f3), .string ((rd_T77 l0_0 a1).f4), .slice A541_5 ((rd_T77 l0_0 a1).f5).length c541_5] 77 (0, 0)) (by (with_reducible repeat (first | refine blk_drewN ?_ _ | refine blk_drew ?_ | refine blk_alloc ?_ _)); refine blk_put (cs := #[.int .i64 ((rd_T77 l0_0 a1).f0), .int .i64 ((rd_T77 l0_0 a1).f1), .string ((rd_T77 l0_0 a1).f2), .string ((rd_T77 l0_0 a1).f3), .string ((rd_T77 l0_0 a1).f4), .slice none 0 0]) ?_ 5 _ rfl; (with_reducible repeat (first | refine blk_drewN ?_ _ | refine blk_drew ?_ | refine blk_alloc ?_ _)); refine blk_put (cs := #[.int .i64 ((rd_T77 l0_0 a1).f0), .int .i64 ((rd_T77 l0_0 a1).f1), .string ((rd_T77 l0_0 a1).f2), .string ((rd_T77 l0_0 a1).f3), .string (⟨#[]⟩ : ByteArray), .slice none 0 0]) ?_ 4 _ rfl; (with_reducible repeat (first | refine blk_drewN ?_ _ | refine blk_drew ?_ | refine blk_alloc ?_ _)); refine blk_put (cs := #[.int .i64 ((rd_T77 l0_0 a1).f0), .int .i64 ((rd_T77 l0_0 a1).f1), .string ((rd_T77 l0_0 a1).f2), .string (⟨#[]⟩ : ByteArray), .string (⟨#[]⟩ : ByteArray), .slice none 0 0]) ?_ 3 _ rfl; (with_reducible repeat (first | refine blk_drewN ?_ _ | refine blk_drew ?_ | refine blk_alloc ?_ _)); refine blk_put (cs := #[.int .i64 ((rd_T77 l0_0 a1).f0), .int .i64 ((rd_T77 l0_0 a1).f1), .string (⟨#[]⟩ : ByteArray), .string (⟨#[]⟩ : ByteArray), .string (⟨#[]⟩ : ByteArray), .slice none 0 0]) ?_ 2 _ rfl; (with_reducible repeat (first | refine blk_drewN ?_ _ | refine blk_drew ?_ | refine blk_alloc ?_ _)); refine blk_put (cs := #[.int .i64 ((rd_T77 l0_0 a1).f0), .int .i64 0, .string (⟨#[]⟩ : ByteArray), .string (⟨#[]⟩ : ByteArray), .string (⟨#[]⟩ : ByteArray), .slice none 0 0]) ?_ 1 _ rfl; (with_reducible repeat (first | refine blk_drewN ?_ _ | refine blk_drew ?_ | refine blk_alloc ?_ _)); refine blk_put (cs := #[.int .i64 0, .int .i64 0, .string (⟨#[]⟩ : ByteArray), .string (⟨#[]⟩ : ByteArray), .string (⟨#[]⟩ : ByteArray), .slice none 0 0]) ?_ 0 _ rfl; (with_reducible repeat (first | refine blk_drewN ?_ _ | refine blk_drew ?_ | refine blk_alloc ?_ _)); exact BK542.out) hb); replace HB := Hs_ HB hb; clear hb))
        go_ret2
        exact ⟨Re_, Hf_ HB⟩
       ·rw [if_neg c36] at H
        have c36b0 := beq_eq_false_iff_ne.mpr c36
        have c36b1 := bne_iff_ne.mpr c36
        obtain ⟨t545, A46, H⟩ := Bo_ H
        obtain ⟨⟨t546, t547⟩, A47, H⟩ := Bo_ H
        try dsimp only at H
        by_cases c48 : t547 = 0
        ·rw [if_pos c48] at H
         have c48b0 := beq_iff_eq.mpr c48
         have c48b1 := bne_eq_false_iff_eq.mpr c48
         clear c48
         by_cases c49 : ((rd_T77 l0_0 a1).f0) = 4
         ·rw [if_pos c49] at H
          have c49b0 := beq_iff_eq.mpr c49
          have c49b1 := bne_eq_false_iff_eq.mpr c49
          clear c49
          obtain ⟨t548, A50, H⟩ := Bo_ H
          simp only [Option.some.injEq, Prod.mk.injEq] at H
          obtain ⟨rfl, rfl⟩ := H
          have hnb51 := NB537_538.out
          have hnc51 := NB538_537.out
          obtain ⟨hcz52_0, hcz52_1, hcz52_2, hfz52_0, hfz52_1, hfz52_2⟩ := Bc3_ BK537
          have p541 : 0 ≤ (a1 : Int) := of_decide_eq_true As_
          have q541 : a1 < (l0_0.length : Int) := of_decide_eq_true As_
          obtain ⟨ad541, A541_5, c541_5, e541, hx541_0, hx541_1, hx541_2, hx541_3, hx541_4, hx541_5, hl541_5, hi541_5⟩ := at_T77 HR0_0.out a1 p541 q541
          cases e541
          replace hx541_0 := Bw_ hx541_0 HB
          replace hx541_1 := Bw_ hx541_1 HB
          replace hx541_2 := Bw_ hx541_2 HB
          replace hx541_3 := Bw_ hx541_3 HB
          replace hx541_4 := Bw_ hx541_4 HB
          replace hx541_5 := Bw_ hx541_5 HB
          have HR541_5 := Aside0.mk hi541_5
          have HC541_5 := Aside0.mk hl541_5
          clear hi541_5 hl541_5
          replace p541 := eq_true p541
          replace q541 := eq_true q541
          try go_wp2_with (first | (refine Bv_ 8 #[.int .i64 0, .int .i64 0, .string (⟨#[]⟩ : ByteArray), .string (⟨#[]⟩ : ByteArray), .string (⟨#[]⟩ : ByteArray), .slice none 0 0] 77 ?_; intro gb542 hg w53 BK542 hb; have GW542 := Hg_ HB hg; have NB537_542 := Bl_ BK537 hg; have NB542_537 := Bm_ NB537_542; have NB538_542 := Bl_ BK538 hg; have NB542_538 := Bm_ NB538_542; replace BK537 := Bb_ BK537 hb; replace BK538 := Bb_ BK538 hb; replace HB := Hs_ HB hb; clear hb hg; have hnb54 := NB542_537.out; have hnc54 := NB537_542.out; have hnb55 := NB542_538.out; have hnc55 := NB538_542.out; obtain ⟨hcz56_0, hcz56_1, hcz56_2, hcz56_3, hcz56_4, hcz56_5, hfz56_0, hfz56_1, hfz56_2, hfz56_3, hfz56_4, hfz56_5⟩ := Bc6_ BK542))
          have n0_ : Aside0 (((((((w53.setCell ⟨gb542, 0, none⟩ (.int .i64 ((rd_T77 l0_0 a1).f0))).setCell ⟨gb542, 1, none⟩ (.int .i64 ((rd_T77 l0_0 a1).f1))).setCell ⟨gb542, 2, none⟩ (.string ((rd_T77 l0_0 a1).f2))).setCell ⟨gb542, 3, none⟩ (.string ((rd_T77 l0_0 a1).f3))).setCell ⟨gb542, 4, none⟩ (.string ((rd_T77 l0_0 a1).f4))).setCell ⟨gb542, 5, none⟩ (.slice A541_5 ((rd_T77 l0_0 a1).f5).length c541_5)).heap[gb537]? = some (.cells #[.slice (some ad541) l0_0.length c0_0, .slice A0_1 l0_1.length c0_1, .slice A0_2 l0_2.length c0_2] 40 (0, 0))) := ⟨by (with_reducible repeat (first | refine blk_drewN ?_ _ | refine blk_drew ?_ | refine blk_alloc ?_ _)); refine blk_far ?_ NB537_542.out _; (with_reducible repeat (first | refine blk_drewN ?_ _ | refine blk_drew ?_ | refine blk_alloc ?_ _)); refine blk_far ?_ NB537_542.out _; (with_reducible repeat (first | refine blk_drewN ?_ _ | refine blk_drew ?_ | refine blk_alloc ?_ _)); refine blk_far ?_ NB537_542.out _; (with_reducible repeat (first | refine blk_drewN ?_ _ | refine blk_drew ?_ | refine blk_alloc ?_ _)); refine blk_far ?_ NB537_542.out _; (with_reducible repeat (first | refine blk_drewN ?_ _ | refine blk_drew ?_ | refine blk_alloc ?_ _)); refine blk_far ?_ NB537_542.out _; (with_reducible repeat (first | refine blk_drewN ?_ _ | refine blk_drew ?_ | refine blk_alloc ?_ _)); refine blk_far ?_ NB537_542.out _; (with_reducible repeat (first | refine blk_drewN ?_ _ | refine blk_drew ?_ | refine blk_alloc ?_ _)); exact BK537.out⟩
          have n1_ : Aside0 (((((((w53.setCell ⟨gb542, 0, none⟩ (.int .i64 ((rd_T77 l0_0 a1).f0))).setCell ⟨gb542, 1, none⟩ (.int .i64 ((rd_T77 l0_0 a1).f1))).setCell ⟨gb542, 2, none⟩ (.string ((rd_T77 l0_0 a1).f2))).setCell ⟨gb542, 3, none⟩ (.string ((rd_T77 l0_0 a1).f3))).setCell ⟨gb542, 4, none⟩ (.string ((rd_T77 l0_0 a1).f4))).setCell ⟨gb542, 5, none⟩ (.slice A541_5 ((rd_T77 l0_0 a1).f5).length c541_5)).heap[gb538]? = some (.cells #[.slice A2_0 l2_0.length c2_0, .slice A2_1 l2_1.length c2_1] 42 (0, 0))) := ⟨by (with_reducible repeat (first | refine blk_drewN ?_ _ | refine blk_drew ?_ | refine blk_alloc ?_ _)); refine blk_far ?_ NB538_542.out _; (with_reducible repeat (first | refine blk_drewN ?_ _ | refine blk_drew ?_ | refine blk_alloc ?_ _)); refine blk_far ?_ NB538_542.out _; (with_reducible repeat (first | refine blk_drewN ?_ _ | refine blk_drew ?_ | refine blk_alloc ?_ _)); refine blk_far ?_ NB538_542.out _; (with_reducible repeat (first | refine blk_drewN ?_ _ | refine blk_drew ?_ | refine blk_alloc ?_ _)); refine blk_far ?_ NB538_542.out _; (with_reducible repeat (first | refine blk_drewN ?_ _ | refine blk_drew ?_ | refine blk_alloc ?_ _)); refine blk_far ?_ NB538_542.out _; (with_reducible repeat (first | refine blk_drewN ?_ _ | refine blk_drew ?_ | refine blk_alloc ?_ _)); refine blk_far ?_ NB538_542.out _; (with_reducible repeat (first | refine blk_drewN ?_ _ | refine blk_drew ?_ | refine blk_alloc ?_ _)); exact BK538.out⟩
          have n2_ : Aside0 (((((((w53.setCell ⟨gb542, 0, none⟩ (.int .i64 ((rd_T77 l0_0 a1).f0))).setCell ⟨gb542, 1, none⟩ (.int .i64 ((rd_T77 l0_0 a1).f1))).setCell ⟨gb542, 2, none⟩ (.string ((rd_T77 l0_0 a1).f2))).setCell ⟨gb542, 3, none⟩ (.string ((rd_T77 l0_0 a1).f3))).setCell ⟨gb542, 4, none⟩ (.string ((rd_T77 l0_0 a1).f4))).setCell ⟨gb542, 5, none⟩ (.slice A541_5 ((rd_T77 l0_0 a1).f5).length c541_5)).heap[gb542]? = some (.cells #[.int .i64 ((rd_T77 l0_0 a1).f0), .int .i64 ((rd_T77 l0_0 a1).f1), .string ((rd_T77 l0_0 a1).f2), .string ((rd_T77 l0_0 a1).f3), .string ((rd_T77 l0_0 a1).f4), .slice A541_5 ((rd_T77 l0_0 a1).f5).length c541_5] 77 (0, 0))) := ⟨by (with_reducible repeat (first | refine blk_drewN ?_ _ | refine blk_drew ?_ | refine blk_alloc ?_ _)); refine blk_put (cs := #[.int .i64 ((rd_T77 l0_0 a1).f0), .int .i64 ((rd_T77 l0_0 a1).f1), .string ((rd_T77 l0_0 a1).f2), .string ((rd_T77 l0_0 a1).f3), .string ((rd_T77 l0_0 a1).f4), .slice none 0 0]) ?_ 5 _ rfl; (with_reducible repeat (first | refine blk_drewN ?_ _ | refine blk_drew ?_ | refine blk_alloc ?_ _)); refine blk_put (cs := #[.int .i64 ((rd_T77 l0_0 a1).f0), .int .i64 ((rd_T77 l0_0 a1).f1), .string ((rd_T77 l0_0 a1).f2), .string ((rd_T77 l0_0 a1).f3), .string (⟨#[]⟩ : ByteArray), .slice none 0 0]) ?_ 4 _ rfl; (with_reducible repeat (first | refine blk_drewN ?_ _ | refine blk_drew ?_ | refine blk_alloc ?_ _)); refine blk_put (cs := #[.int .i64 ((rd_T77 l0_0 a1).f0), .int .i64 ((rd_T77 l0_0 a1).f1), .string ((rd_T77 l0_0 a1).f2), .string (⟨#[]⟩ : ByteArray), .string (⟨#[]⟩ : ByteArray), .slice none 0 0]) ?_ 3 _ rfl; (with_reducible repeat (first | refine blk_drewN ?_ _ | refine blk_drew ?_ | refine blk_alloc ?_ _)); refine blk_put (cs := #[.int .i64 ((rd_T77 l0_0 a1).f0), .int .i64 ((rd_T77 l0_0 a1).f1), .string (⟨#[]⟩ : ByteArray), .string (⟨#[]⟩ : ByteArray), .string (⟨#[]⟩ : ByteArray), .slice none 0 0]) ?_ 2 _ rfl; (with_reducible repeat (first | refine blk_drewN ?_ _ | refine blk_drew ?_ | refine blk_alloc ?_ _)); refine blk_put (cs := #[.int .i64 ((rd_T77 l0_0 a1).f0), .int .i64 0, .string (⟨#[]⟩ : ByteArray), .string (⟨#[]⟩ : ByteArray), .string (⟨#[]⟩ : ByteArray), .slice none 0 0]) ?_ 1 _ rfl; (with_reducible repeat (first | refine blk_drewN ?_ _ | refine blk_drew ?_ | refine blk_alloc ?_ _)); refine blk_put (cs := #[.int .i64 0, .int .i64 0, .string (⟨#[]⟩ : ByteArray), .string (⟨#[]⟩ : ByteArray), .string (⟨#[]⟩ : ByteArray), .slice none 0 0]) ?_ 0 _ rfl; (with_reducible repeat (first | refine blk_drewN ?_ _ | refine blk_drew ?_ | refine blk_alloc ?_ _)); exact BK542.out⟩
          have n3_ : Aside0 (Below w.heap.size w ((((((w53.setCell ⟨gb542, 0, none⟩ (.int .i64 ((rd_T77 l0_0 a1).f0))).setCell ⟨gb542, 1, none⟩ (.int .i64 ((rd_T77 l0_0 a1).f1))).setCell ⟨gb542, 2, none⟩ (.string ((rd_T77 l0_0 a1).f2))).setCell ⟨gb542, 3, none⟩ (.string ((rd_T77 l0_0 a1).f3))).setCell ⟨gb542, 4, none⟩ (.string ((rd_T77 l0_0 a1).f4))).setCell ⟨gb542, 5, none⟩ (.slice A541_5 ((rd_T77 l0_0 a1).f5).length c541_5))) := ⟨Hf_ HB⟩
          (try clear BK537)
          (try clear BK538)
          (try clear BK542)
          (try clear HB)
          generalize ((((((w53.setCell ⟨gb542, 0, none⟩ (.int .i64 ((rd_T77 l0_0 a1).f0))).setCell ⟨gb542, 1, none⟩ (.int .i64 ((rd_T77 l0_0 a1).f1))).setCell ⟨gb542, 2, none⟩ (.string ((rd_T77 l0_0 a1).f2))).setCell ⟨gb542, 3, none⟩ (.string ((rd_T77 l0_0 a1).f3))).setCell ⟨gb542, 4, none⟩ (.string ((rd_T77 l0_0 a1).f4))).setCell ⟨gb542, 5, none⟩ (.slice A541_5 ((rd_T77 l0_0 a1).f5).length c541_5)) = w57 at n0_ n1_ n2_ n3_ ⊢
          have BK537 := n0_
          have BK538 := n1_
          have BK542 := n2_
          have HB := n3_
          clear n0_ n1_ n2_ n3_
          replace BK537 := Aside0.mk (blk_drew BK537.out); replace BK538 := Aside0.mk (blk_drew BK538.out); replace BK542 := Aside0.mk (blk_drew BK542.out); replace HB := Aside0.mk (below_drew1 HB.out)
          refine start_ (n := 11) (S := fun w' => w'.cell? ⟨gb537, 0, none⟩ = some (.slice (some ad541) l0_0.length c0_0) ∧ w'.cell? ⟨gb537, 1, none⟩ = some (.slice A0_1 l0_1.length c0_1) ∧ w'.cell? ⟨gb537, 2, none⟩ = some (.slice A0_2 l0_2.length c0_2) ∧ w'.cell? ⟨gb538, 0, none⟩ = some (.slice A2_0 l2_0.length c2_0) ∧ w'.cell? ⟨gb538, 1, none⟩ = some (.slice A2_1 l2_1.length c2_1)) (ds := []) #[false, false, false, false, false, false, false, false, false, false, false] (by kernel_rfl) rfl rfl ⟨(blk_cell BK537.out 0).trans rfl, (blk_cell BK537.out 1).trans rfl, (blk_cell BK537.out 2).trans rfl, (blk_cell BK538.out 0).trans rfl, (blk_cell BK538.out 1).trans rfl⟩ (fun hHeld => ?_); refine with_tabW impl_ValueOf.tab11 impl_ValueOf.bits11 (fun HT_ HW_ => ?_)
          generalize w57.drew = w58 at BK537 BK538 BK542 HB hHeld ⊢
          refine Pu_ 2 (some 46) HT_ ?_
          refine Tk_ 0 (some 44) HT_ HW_ hHeld ?_
          refine Tk_ 1 (some 45) HT_ HW_ hHeld ?_
          refine Tk_ 4 (some 48) HT_ HW_ hHeld ?_
          refine On_ 3 (some 47) HT_ (fun K hK => ?_)
          refine Gs_ Try.func105 ((impl_kidAt.calls _ _ l0_0 _ _ l0_1 _ _ l0_2 a1 0 t545 _ (Sc_ HR0_0 HB) HC0_0.out (Sc_ HR0_1 HB) HC0_1.out (Sc_ HR0_2 HB) HC0_2.out A46.out).mono ?_)
          rintro e w59 ⟨rfl, hb⟩
          refine ⟨_, rfl, ?_⟩
          replace BK537 := Bb_ BK537 hb; replace BK538 := Bb_ BK538 hb; replace BK542 := Bb_ BK542 hb; replace HB := Hs_ HB hb
          clear hb
          refine hK.out _ _ ⟨(blk_cell BK537.out 0).trans rfl, (blk_cell BK537.out 1).trans rfl, (blk_cell BK537.out 2).trans rfl, (blk_cell BK538.out 0).trans rfl, (blk_cell BK538.out 1).trans rfl⟩ (fun hHeld => ?_)
          clear hK K
          refine No_ (some 47) ?_
          refine On_ 5 (some 49) HT_ (fun K hK => ?_)
          refine Gs_ Try.func50 ((ih kj3 (by have := HJ3.out; omega) _ _ l0_0 _ _ l0_1 _ _ l0_2 t545 _ _ l2_0 _ _ l2_1 t546 t547 _ (Sc_ HR0_0 HB) HC0_0.out (Sc_ HR0_1 HB) HC0_1.out (Sc_ HR0_2 HB) HC0_2.out (Sc_ HR2_0 HB) HC2_0.out (Sc_ HR2_1 HB) HC2_1.out A47.out).mono ?_)
          rintro e w60 ⟨rfl, hb⟩
          refine ⟨_, rfl, ?_⟩
          replace BK537 := Bb_ BK537 hb; replace BK538 := Bb_ BK538 hb; replace BK542 := Bb_ BK542 hb; replace HB := Hs_ HB hb
          clear hb
          refine hK.out _ _ ⟨(blk_cell BK537.out 0).trans rfl, (blk_cell BK537.out 1).trans rfl, (blk_cell BK537.out 2).trans rfl, (blk_cell BK538.out 0).trans rfl, (blk_cell BK538.out 1).trans rfl⟩ (fun hHeld => ?_)
          clear hK K
          refine No_ (some 49) ?_
          refine Pu_ 6 (some 43) HT_ ?_
          refine Pu_ 7 (some 50) HT_ ?_
          refine Pu_ 8 (some 51) HT_ ?_
          refine Pu_ 9 (some 9) HT_ ?_
          refine Pu_ 10 (some 10) HT_ ?_
          refine done_ (done_of HT_.out (by kernel_rfl)) ?_
          obtain ⟨hcz61_0, hcz61_1, hcz61_2, hcz61_3, hcz61_4, hcz61_5, hfz61_0, hfz61_1, hfz61_2, hfz61_3, hfz61_4, hfz61_5⟩ := Bc6_ BK542
          try go_wp2_with (first | (refine Gl_ (some 60) Try.func106 ((impl_Denied.calls t546 t548 _ A50.out).mono ?_); rintro e w' ⟨rfl, ⟨nd, rfl⟩⟩; refine ⟨_, rfl, ?_⟩))
          go_ret2
          exact ⟨Re_, Hf_ HB⟩
         ·rw [if_neg c49] at H
          have c49b0 := beq_eq_false_iff_ne.mpr c49
          have c49b1 := bne_iff_ne.mpr c49
          by_cases c62 : ((rd_T77 l0_0 a1).f0) = 5
          ·rw [if_pos c62] at H
           have c62b0 := beq_iff_eq.mpr c62
           have c62b1 := bne_eq_false_iff_eq.mpr c62
           clear c62
           obtain ⟨⟨t549, t550⟩, A63, H⟩ := Bo_ H
           try dsimp only at H
           simp only [Option.some.injEq, Prod.mk.injEq] at H
           obtain ⟨rfl, rfl⟩ := H
           have hnb64 := NB537_538.out
           have hnc64 := NB538_537.out
           obtain ⟨hcz65_0, hcz65_1, hcz65_2, hfz65_0, hfz65_1, hfz65_2⟩ := Bc3_ BK537
           have p541 : 0 ≤ (a1 : Int) := of_decide_eq_true As_
           have q541 : a1 < (l0_0.length : Int) := of_decide_eq_true As_
           obtain ⟨ad541, A541_5, c541_5, e541, hx541_0, hx541_1, hx541_2, hx541_3, hx541_4, hx541_5, hl541_5, hi541_5⟩ := at_T77 HR0_0.out a1 p541 q541
           cases e541
           replace hx541_0 := Bw_ hx541_0 HB
           replace hx541_1 := Bw_ hx541_1 HB
           replace hx541_2 := Bw_ hx541_2 HB
           replace hx541_3 := Bw_ hx541_3 HB
           replace hx541_4 := Bw_ hx541_4 HB
           replace hx541_5 := Bw_ hx541_5 HB
           have HR541_5 := Aside0.mk hi541_5
           have HC541_5 := Aside0.mk hl541_5
           clear hi541_5 hl541_5
           replace p541 := eq_true p541
           replace q541 := eq_true q541
           try go_wp2_with (first | (refine Bv_ 8 #[.int .i64 0, .int .i64 0, .string (⟨#[]⟩ : ByteArray), .string (⟨#[]⟩ : ByteArray), .string (⟨#[]⟩ : ByteArray), .slice none 0 0] 77 ?_; intro gb542 hg w66 BK542 hb; have GW542 := Hg_ HB hg; have NB537_542 := Bl_ BK537 hg; have NB542_537 := Bm_ NB537_542; have NB538_542 := Bl_ BK538 hg; have NB542_538 := Bm_ NB538_542; replace BK537 := Bb_ BK537 hb; replace BK538 := Bb_ BK538 hb; replace HB := Hs_ HB hb; clear hb hg; have hnb67 := NB542_537.out; have hnc67 := NB537_542.out; have hnb68 := NB542_538.out; have hnc68 := NB538_542.out; obtain ⟨hcz69_0, hcz69_1, hcz69_2, hcz69_3, hcz69_4, hcz69_5, hfz69_0, hfz69_1, hfz69_2, hfz69_3, hfz69_4, hfz69_5⟩ := Bc6_ BK542))
           have n0_ : Aside0 (((((((w66.setCell ⟨gb542, 0, none⟩ (.int .i64 ((rd_T77 l0_0 a1).f0))).setCell ⟨gb542, 1, none⟩ (.int .i64 ((rd_T77 l0_0 a1).f1))).setCell ⟨gb542, 2, none⟩ (.string ((rd_T77 l0_0 a1).f2))).setCell ⟨gb542, 3, none⟩ (.string ((rd_T77 l0_0 a1).f3))).setCell ⟨gb542, 4, none⟩ (.string ((rd_T77 l0_0 a1).f4))).setCell ⟨gb542, 5, none⟩ (.slice A541_5 ((rd_T77 l0_0 a1).f5).length c541_5)).heap[gb537]? = some (.cells #[.slice (some ad541) l0_0.length c0_0, .slice A0_1 l0_1.length c0_1, .slice A0_2 l0_2.length c0_2] 40 (0, 0))) := ⟨by (with_reducible repeat (first | refine blk_drewN ?_ _ | refine blk_drew ?_ | refine blk_alloc ?_ _)); refine blk_far ?_ NB537_542.out _; (with_reducible repeat (first | refine blk_drewN ?_ _ | refine blk_drew ?_ | refine blk_alloc ?_ _)); refine blk_far ?_ NB537_542.out _; (with_reducible repeat (first | refine blk_drewN ?_ _ | refine blk_drew ?_ | refine blk_alloc ?_ _)); refine blk_far ?_ NB537_542.out _; (with_reducible repeat (first | refine blk_drewN ?_ _ | refine blk_drew ?_ | refine blk_alloc ?_ _)); refine blk_far ?_ NB537_542.out _; (with_reducible repeat (first | refine blk_drewN ?_ _ | refine blk_drew ?_ | refine blk_alloc ?_ _)); refine blk_far ?_ NB537_542.out _; (with_reducible repeat (first | refine blk_drewN ?_ _ | refine blk_drew ?_ | refine blk_alloc ?_ _)); refine blk_far ?_ NB537_542.out _; (with_reducible repeat (first | refine blk_drewN ?_ _ | refine blk_drew ?_ | refine blk_alloc ?_ _)); exact BK537.out⟩
           have n1_ : Aside0 (((((((w66.setCell ⟨gb542, 0, none⟩ (.int .i64 ((rd_T77 l0_0 a1).f0))).setCell ⟨gb542, 1, none⟩ (.int .i64 ((rd_T77 l0_0 a1).f1))).setCell ⟨gb542, 2, none⟩ (.string ((rd_T77 l0_0 a1).f2))).setCell ⟨gb542, 3, none⟩ (.string ((rd_T77 l0_0 a1).f3))).setCell ⟨gb542, 4, none⟩ (.string ((rd_T77 l0_0 a1).f4))).setCell ⟨gb542, 5, none⟩ (.slice A541_5 ((rd_T77 l0_0 a1).f5).length c541_5)).heap[gb538]? = some (.cells #[.slice A2_0 l2_0.length c2_0, .slice A2_1 l2_1.length c2_1] 42 (0, 0))) := ⟨by (with_reducible repeat (first | refine blk_drewN ?_ _ | refine blk_drew ?_ | refine blk_alloc ?_ _)); refine blk_far ?_ NB538_542.out _; (with_reducible repeat (first | refine blk_drewN ?_ _ | refine blk_drew ?_ | refine blk_alloc ?_ _)); refine blk_far ?_ NB538_542.out _; (with_reducible repeat (first | refine blk_drewN ?_ _ | refine blk_drew ?_ | refine blk_alloc ?_ _)); refine blk_far ?_ NB538_542.out _; (with_reducible repeat (first | refine blk_drewN ?_ _ | refine blk_drew ?_ | refine blk_alloc ?_ _)); refine blk_far ?_ NB538_542.out _; (with_reducible repeat (first | refine blk_drewN ?_ _ | refine blk_drew ?_ | refine blk_alloc ?_ _)); refine blk_far ?_ NB538_542.out _; (with_reducible repeat (first | refine blk_drewN ?_ _ | refine blk_drew ?_ | refine blk_alloc ?_ _)); refine blk_far ?_ NB538_542.out _; (with_reducible repeat (first | refine blk_drewN ?_ _ | refine blk_drew ?_ | refine blk_alloc ?_ _)); exact BK538.out⟩
           have n2_ : Aside0 (((((((w66.setCell ⟨gb542, 0, none⟩ (.int .i64 ((rd_T77 l0_0 a1).f0))).setCell ⟨gb542, 1, none⟩ (.int .i64 ((rd_T77 l0_0 a1).f1))).setCell ⟨gb542, 2, none⟩ (.string ((rd_T77 l0_0 a1).f2))).setCell ⟨gb542, 3, none⟩ (.string ((rd_T77 l0_0 a1).f3))).setCell ⟨gb542, 4, none⟩ (.string ((rd_T77 l0_0 a1).f4))).setCell ⟨gb542, 5, none⟩ (.slice A541_5 ((rd_T77 l0_0 a1).f5).length c541_5)).heap[gb542]? = some (.cells #[.int .i64 ((rd_T77 l0_0 a1).f0), .int .i64 ((rd_T77 l0_0 a1).f1), .string ((rd_T77 l0_0 a1).f2), .string ((rd_T77 l0_0 a1).f3), .string ((rd_T77 l0_0 a1).f4), .slice A541_5 ((rd_T77 l0_0 a1).f5).length c541_5] 77 (0, 0))) := ⟨by (with_reducible repeat (first | refine blk_drewN ?_ _ | refine blk_drew ?_ | refine blk_alloc ?_ _)); refine blk_put (cs := #[.int .i64 ((rd_T77 l0_0 a1).f0), .int .i64 ((rd_T77 l0_0 a1).f1), .string ((rd_T77 l0_0 a1).f2), .string ((rd_T77 l0_0 a1).f3), .string ((rd_T77 l0_0 a1).f4), .slice none 0 0]) ?_ 5 _ rfl; (with_reducible repeat (first | refine blk_drewN ?_ _ | refine blk_drew ?_ | refine blk_alloc ?_ _)); refine blk_put (cs := #[.int .i64 ((rd_T77 l0_0 a1).f0), .int .i64 ((rd_T77 l0_0 a1).f1), .string ((rd_T77 l0_0 a1).f2), .string ((rd_T77 l0_0 a1).f3), .string (⟨#[]⟩ : ByteArray), .slice none 0 0]) ?_ 4 _ rfl; (with_reducible repeat (first | refine blk_drewN ?_ _ | refine blk_drew ?_ | refine blk_alloc ?_ _)); refine blk_put (cs := #[.int .i64 ((rd_T77 l0_0 a1).f0), .int .i64 ((rd_T77 l0_0 a1).f1), .string ((rd_T77 l0_0 a1).f2), .string (⟨#[]⟩ : ByteArray), .string (⟨#[]⟩ : ByteArray), .slice none 0 0]) ?_ 3 _ rfl; (with_reducible repeat (first | refine blk_drewN ?_ _ | refine blk_drew ?_ | refine blk_alloc ?_ _)); refine blk_put (cs := #[.int .i64 ((rd_T77 l0_0 a1).f0), .int .i64 ((rd_T77 l0_0 a1).f1), .string (⟨#[]⟩ : ByteArray), .string (⟨#[]⟩ : ByteArray), .string (⟨#[]⟩ : ByteArray), .slice none 0 0]) ?_ 2 _ rfl; (with_reducible repeat (first | refine blk_drewN ?_ _ | refine blk_drew ?_ | refine blk_alloc ?_ _)); refine blk_put (cs := #[.int .i64 ((rd_T77 l0_0 a1).f0), .int .i64 0, .string (⟨#[]⟩ : ByteArray), .string (⟨#[]⟩ : ByteArray), .string (⟨#[]⟩ : ByteArray), .slice none 0 0]) ?_ 1 _ rfl; (with_reducible repeat (first | refine blk_drewN ?_ _ | refine blk_drew ?_ | refine blk_alloc ?_ _)); refine blk_put (cs := #[.int .i64 0, .int .i64 0, .string (⟨#[]⟩ : ByteArray), .string (⟨#[]⟩ : ByteArray), .string (⟨#[]⟩ : ByteArray), .slice none 0 0]) ?_ 0 _ rfl; (with_reducible repeat (first | refine blk_drewN ?_ _ | refine blk_drew ?_ | refine blk_alloc ?_ _)); exact BK542.out⟩
           have n3_ : Aside0 (Below w.heap.size w ((((((w66.setCell ⟨gb542, 0, none⟩ (.int .i64 ((rd_T77 l0_0 a1).f0))).setCell ⟨gb542, 1, none⟩ (.int .i64 ((rd_T77 l0_0 a1).f1))).setCell ⟨gb542, 2, none⟩ (.string ((rd_T77 l0_0 a1).f2))).setCell ⟨gb542, 3, none⟩ (.string ((rd_T77 l0_0 a1).f3))).setCell ⟨gb542, 4, none⟩ (.string ((rd_T77 l0_0 a1).f4))).setCell ⟨gb542, 5, none⟩ (.slice A541_5 ((rd_T77 l0_0 a1).f5).length c541_5))) := ⟨Hf_ HB⟩
           (try clear BK537)
           (try clear BK538)
           (try clear BK542)
           (try clear HB)
           generalize ((((((w66.setCell ⟨gb542, 0, none⟩ (.int .i64 ((rd_T77 l0_0 a1).f0))).setCell ⟨gb542, 1, none⟩ (.int .i64 ((rd_T77 l0_0 a1).f1))).setCell ⟨gb542, 2, none⟩ (.string ((rd_T77 l0_0 a1).f2))).setCell ⟨gb542, 3, none⟩ (.string ((rd_T77 l0_0 a1).f3))).setCell ⟨gb542, 4, none⟩ (.string ((rd_T77 l0_0 a1).f4))).setCell ⟨gb542, 5, none⟩ (.slice A541_5 ((rd_T77 l0_0 a1).f5).length c541_5)) = w70 at n0_ n1_ n2_ n3_ ⊢
           have BK537 := n0_
           have BK538 := n1_
           have BK542 := n2_
           have HB := n3_
           clear n0_ n1_ n2_ n3_
           replace BK537 := Aside0.mk (blk_drew BK537.out); replace BK538 := Aside0.mk (blk_drew BK538.out); replace BK542 := Aside0.mk (blk_drew BK542.out); replace HB := Aside0.mk (below_drew1 HB.out)
           refine start_ (n := 11) (S := fun w' => w'.cell? ⟨gb537, 0, none⟩ = some (.slice (some ad541) l0_0.length c0_0) ∧ w'.cell? ⟨gb537, 1, none⟩ = some (.slice A0_1 l0_1.length c0_1) ∧ w'.cell? ⟨gb537, 2, none⟩ = some (.slice A0_2 l0_2.length c0_2) ∧ w'.cell? ⟨gb538, 0, none⟩ = some (.slice A2_0 l2_0.length c2_0) ∧ w'.cell? ⟨gb538, 1, none⟩ = some (.slice A2_1 l2_1.length c2_1)) (ds := []) #[false, false, false, false, false, false, false, false, false, false, false] (by kernel_rfl) rfl rfl ⟨(blk_cell BK537.out 0).trans rfl, (blk_cell BK537.out 1).trans rfl, (blk_cell BK537.out 2).trans rfl, (blk_cell BK538.out 0).trans rfl, (blk_cell BK538.out 1).trans rfl⟩ (fun hHeld => ?_); refine with_tabW impl_ValueOf.tab11 impl_ValueOf.bits11 (fun HT_ HW_ => ?_)
           generalize w70.drew = w71 at BK537 BK538 BK542 HB hHeld ⊢
           refine Pu_ 2 (some 46) HT_ ?_
           refine Tk_ 0 (some 44) HT_ HW_ hHeld ?_
           refine Tk_ 1 (some 45) HT_ HW_ hHeld ?_
           refine Tk_ 4 (some 48) HT_ HW_ hHeld ?_
           refine On_ 3 (some 47) HT_ (fun K hK => ?_)
           refine Gs_ Try.func105 ((impl_kidAt.calls _ _ l0_0 _ _ l0_1 _ _ l0_2 a1 0 t545 _ (Sc_ HR0_0 HB) HC0_0.out (Sc_ HR0_1 HB) HC0_1.out (Sc_ HR0_2 HB) HC0_2.out A46.out).mono ?_)
           rintro e w72 ⟨rfl, hb⟩
           refine ⟨_, rfl, ?_⟩
           replace BK537 := Bb_ BK537 hb; replace BK538 := Bb_ BK538 hb; replace BK542 := Bb_ BK542 hb; replace HB := Hs_ HB hb
           clear hb
           refine hK.out _ _ ⟨(blk_cell BK537.out 0).trans rfl, (blk_cell BK537.out 1).trans rfl, (blk_cell BK537.out 2).trans rfl, (blk_cell BK538.out 0).trans rfl, (blk_cell BK538.out 1).trans rfl⟩ (fun hHeld => ?_)
           clear hK K
           refine No_ (some 47) ?_
           refine On_ 5 (some 49) HT_ (fun K hK => ?_)
           refine Gs_ Try.func50 ((ih kj3 (by have := HJ3.out; omega) _ _ l0_0 _ _ l0_1 _ _ l0_2 t545 _ _ l2_0 _ _ l2_1 t546 t547 _ (Sc_ HR0_0 HB) HC0_0.out (Sc_ HR0_1 HB) HC0_1.out (Sc_ HR0_2 HB) HC0_2.out (Sc_ HR2_0 HB) HC2_0.out (Sc_ HR2_1 HB) HC2_1.out A47.out).mono ?_)
           rintro e w73 ⟨rfl, hb⟩
           refine ⟨_, rfl, ?_⟩
           replace BK537 := Bb_ BK537 hb; replace BK538 := Bb_ BK538 hb; replace BK542 := Bb_ BK542 hb; replace HB := Hs_ HB hb
           clear hb
           refine hK.out _ _ ⟨(blk_cell BK537.out 0).trans rfl, (blk_cell BK537.out 1).trans rfl, (blk_cell BK537.out 2).trans rfl, (blk_cell BK538.out 0).trans rfl, (blk_cell BK538.out 1).trans rfl⟩ (fun hHeld => ?_)
           clear hK K
           refine No_ (some 49) ?_
           refine Pu_ 6 (some 43) HT_ ?_
           refine Pu_ 7 (some 50) HT_ ?_
           refine Pu_ 8 (some 51) HT_ ?_
           refine Pu_ 9 (some 9) HT_ ?_
           refine Pu_ 10 (some 10) HT_ ?_
           refine done_ (done_of HT_.out (by kernel_rfl)) ?_
           obtain ⟨hcz74_0, hcz74_1, hcz74_2, hcz74_3, hcz74_4, hcz74_5, hfz74_0, hfz74_1, hfz74_2, hfz74_3, hfz74_4, hfz74_5⟩ := Bc6_ BK542
           try go_wp2_with (first | (refine Gl_ (some 64) Try.func107 ((impl_Negated.calls t546 t549 t550 _ A63.out).mono ?_); rintro e w' ⟨rfl, ⟨nd, rfl⟩⟩; refine ⟨_, rfl, ?_⟩))
           go_ret2
           exact ⟨Re_, Hf_ HB⟩
          ·rw [if_neg c62] at H
           have c62b0 := beq_eq_false_iff_ne.mpr c62
           have c62b1 := bne_iff_ne.mpr c62
           obtain ⟨t551, A75, H⟩ := Bo_ H
           obtain ⟨⟨t552, t553⟩, A76, H⟩ := Bo_ H
           try dsimp only at H
           by_cases c77 : t553 = 0
           ·rw [if_pos c77] at H
            have c77b0 := beq_iff_eq.mpr c77
            have c77b1 := bne_eq_false_iff_eq.mpr c77
            clear c77
            obtain ⟨⟨t554, t555⟩, A78, H⟩ := Bo_ H
            try dsimp only at H
            simp only [Option.some.injEq, Prod.mk.injEq] at H
            obtain ⟨rfl, rfl⟩ := H
            have hnb79 := NB537_538.out
            have hnc79 := NB538_537.out
            obtain ⟨hcz80_0, hcz80_1, hcz80_2, hfz80_0, hfz80_1, hfz80_2⟩ := Bc3_ BK537
            have p541 : 0 ≤ (a1 : Int) := of_decide_eq_true As_
            have q541 : a1 < (l0_0.length : Int) := of_decide_eq_true As_
            obtain ⟨ad541, A541_5, c541_5, e541, hx541_0, hx541_1, hx541_2, hx541_3, hx541_4, hx541_5, hl541_5, hi541_5⟩ := at_T77 HR0_0.out a1 p541 q541
            cases e541
            replace hx541_0 := Bw_ hx541_0 HB
            replace hx541_1 := Bw_ hx541_1 HB
            replace hx541_2 := Bw_ hx541_2 HB
            replace hx541_3 := Bw_ hx541_3 HB
            replace hx541_4 := Bw_ hx541_4 HB
            replace hx541_5 := Bw_ hx541_5 HB
            have HR541_5 := Aside0.mk hi541_5
            have HC541_5 := Aside0.mk hl541_5
            clear hi541_5 hl541_5
            replace p541 := eq_true p541
            replace q541 := eq_true q541
            try go_wp2_with (first | (refine Bv_ 8 #[.int .i64 0, .int .i64 0, .string (⟨#[]⟩ : ByteArray), .string (⟨#[]⟩ : ByteArray), .string (⟨#[]⟩ : ByteArray), .slice none 0 0] 77 ?_; intro gb542 hg w81 BK542 hb; have GW542 := Hg_ HB hg; have NB537_542 := Bl_ BK537 hg; have NB542_537 := Bm_ NB537_542; have NB538_542 := Bl_ BK538 hg; have NB542_538 := Bm_ NB538_542; replace BK537 := Bb_ BK537 hb; replace BK538 := Bb_ BK538 hb; replace HB := Hs_ HB hb; clear hb hg; have hnb82 := NB542_537.out; have hnc82 := NB537_542.out; have hnb83 := NB542_538.out; have hnc83 := NB538_542.out; obtain ⟨hcz84_0, hcz84_1, hcz84_2, hcz84_3, hcz84_4, hcz84_5, hfz84_0, hfz84_1, hfz84_2, hfz84_3, hfz84_4, hfz84_5⟩ := Bc6_ BK542))
            have n0_ : Aside0 (((((((w81.setCell ⟨gb542, 0, none⟩ (.int .i64 ((rd_T77 l0_0 a1).f0))).setCell ⟨gb542, 1, none⟩ (.int .i64 ((rd_T77 l0_0 a1).f1))).setCell ⟨gb542, 2, none⟩ (.string ((rd_T77 l0_0 a1).f2))).setCell ⟨gb542, 3, none⟩ (.string ((rd_T77 l0_0 a1).f3))).setCell ⟨gb542, 4, none⟩ (.string ((rd_T77 l0_0 a1).f4))).setCell ⟨gb542, 5, none⟩ (.slice A541_5 ((rd_T77 l0_0 a1).f5).length c541_5)).heap[gb537]? = some (.cells #[.slice (some ad541) l0_0.length c0_0, .slice A0_1 l0_1.length c0_1, .slice A0_2 l0_2.length c0_2] 40 (0, 0))) := ⟨by (with_reducible repeat (first | refine blk_drewN ?_ _ | refine blk_drew ?_ | refine blk_alloc ?_ _)); refine blk_far ?_ NB537_542.out _; (with_reducible repeat (first | refine blk_drewN ?_ _ | refine blk_drew ?_ | refine blk_alloc ?_ _)); refine blk_far ?_ NB537_542.out _; (with_reducible repeat (first | refine blk_drewN ?_ _ | refine blk_drew ?_ | refine blk_alloc ?_ _)); refine blk_far ?_ NB537_542.out _; (with_reducible repeat (first | refine blk_drewN ?_ _ | refine blk_drew ?_ | refine blk_alloc ?_ _)); refine blk_far ?_ NB537_542.out _; (with_reducible repeat (first | refine blk_drewN ?_ _ | refine blk_drew ?_ | refine blk_alloc ?_ _)); refine blk_far ?_ NB537_542.out _; (with_reducible repeat (first | refine blk_drewN ?_ _ | refine blk_drew ?_ | refine blk_alloc ?_ _)); refine blk_far ?_ NB537_542.out _; (with_reducible repeat (first | refine blk_drewN ?_ _ | refine blk_drew ?_ | refine blk_alloc ?_ _)); exact BK537.out⟩
            have n1_ : Aside0 (((((((w81.setCell ⟨gb542, 0, none⟩ (.int .i64 ((rd_T77 l0_0 a1).f0))).setCell ⟨gb542, 1, none⟩ (.int .i64 ((rd_T77 l0_0 a1).f1))).setCell ⟨gb542, 2, none⟩ (.string ((rd_T77 l0_0 a1).f2))).setCell ⟨gb542, 3, none⟩ (.string ((rd_T77 l0_0 a1).f3))).setCell ⟨gb542, 4, none⟩ (.string ((rd_T77 l0_0 a1).f4))).setCell ⟨gb542, 5, none⟩ (.slice A541_5 ((rd_T77 l0_0 a1).f5).length c541_5)).heap[gb538]? = some (.cells #[.slice A2_0 l2_0.length c2_0, .slice A2_1 l2_1.length c2_1] 42 (0, 0))) := ⟨by (with_reducible repeat (first | refine blk_drewN ?_ _ | refine blk_drew ?_ | refine blk_alloc ?_ _)); refine blk_far ?_ NB538_542.out _; (with_reducible repeat (first | refine blk_drewN ?_ _ | refine blk_drew ?_ | refine blk_alloc ?_ _)); refine blk_far ?_ NB538_542.out _; (with_reducible repeat (first | refine blk_drewN ?_ _ | refine blk_drew ?_ | refine blk_alloc ?_ _)); refine blk_far ?_ NB538_542.out _; (with_reducible repeat (first | refine blk_drewN ?_ _ | refine blk_drew ?_ | refine blk_alloc ?_ _)); refine blk_far ?_ NB538_542.out _; (with_reducible repeat (first | refine blk_drewN ?_ _ | refine blk_drew ?_ | refine blk_alloc ?_ _)); refine blk_far ?_ NB538_542.out _; (with_reducible repeat (first | refine blk_drewN ?_ _ | refine blk_drew ?_ | refine blk_alloc ?_ _)); refine blk_far ?_ NB538_542.out _; (with_reducible repeat (first | refine blk_drewN ?_ _ | refine blk_drew ?_ | refine blk_alloc ?_ _)); exact BK538.out⟩
            have n2_ : Aside0 (((((((w81.setCell ⟨gb542, 0, none⟩ (.int .i64 ((rd_T77 l0_0 a1).f0))).setCell ⟨gb542, 1, none⟩ (.int .i64 ((rd_T77 l0_0 a1).f1))).setCell ⟨gb542, 2, none⟩ (.string ((rd_T77 l0_0 a1).f2))).setCell ⟨gb542, 3, none⟩ (.string ((rd_T77 l0_0 a1).f3))).setCell ⟨gb542, 4, none⟩ (.string ((rd_T77 l0_0 a1).f4))).setCell ⟨gb542, 5, none⟩ (.slice A541_5 ((rd_T77 l0_0 a1).f5).length c541_5)).heap[gb542]? = some (.cells #[.int .i64 ((rd_T77 l0_0 a1).f0), .int .i64 ((rd_T77 l0_0 a1).f1), .string ((rd_T77 l0_0 a1).f2), .string ((rd_T77 l0_0 a1).f3), .string ((rd_T77 l0_0 a1).f4), .slice A541_5 ((rd_T77 l0_0 a1).f5).length c541_5] 77 (0, 0))) := ⟨by (with_reducible repeat (first | refine blk_drewN ?_ _ | refine blk_drew ?_ | refine blk_alloc ?_ _)); refine blk_put (cs := #[.int .i64 ((rd_T77 l0_0 a1).f0), .int .i64 ((rd_T77 l0_0 a1).f1), .string ((rd_T77 l0_0 a1).f2), .string ((rd_T77 l0_0 a1).f3), .string ((rd_T77 l0_0 a1).f4), .slice none 0 0]) ?_ 5 _ rfl; (with_reducible repeat (first | refine blk_drewN ?_ _ | refine blk_drew ?_ | refine blk_alloc ?_ _)); refine blk_put (cs := #[.int .i64 ((rd_T77 l0_0 a1).f0), .int .i64 ((rd_T77 l0_0 a1).f1), .string ((rd_T77 l0_0 a1).f2), .string ((rd_T77 l0_0 a1).f3), .string (⟨#[]⟩ : ByteArray), .slice none 0 0]) ?_ 4 _ rfl; (with_reducible repeat (first | refine blk_drewN ?_ _ | refine blk_drew ?_ | refine blk_alloc ?_ _)); refine blk_put (cs := #[.int .i64 ((rd_T77 l0_0 a1).f0), .int .i64 ((rd_T77 l0_0 a1).f1), .string ((rd_T77 l0_0 a1).f2), .string (⟨#[]⟩ : ByteArray), .string (⟨#[]⟩ : ByteArray), .slice none 0 0]) ?_ 3 _ rfl; (with_reducible repeat (first | refine blk_drewN ?_ _ | refine blk_drew ?_ | refine blk_alloc ?_ _)); refine blk_put (cs := #[.int .i64 ((rd_T77 l0_0 a1).f0), .int .i64 ((rd_T77 l0_0 a1).f1), .string (⟨#[]⟩ : ByteArray), .string (⟨#[]⟩ : ByteArray), .string (⟨#[]⟩ : ByteArray), .slice none 0 0]) ?_ 2 _ rfl; (with_reducible repeat (first | refine blk_drewN ?_ _ | refine blk_drew ?_ | refine blk_alloc ?_ _)); refine blk_put (cs := #[.int .i64 ((rd_T77 l0_0 a1).f0), .int .i64 0, .string (⟨#[]⟩ : ByteArray), .string (⟨#[]⟩ : ByteArray), .string (⟨#[]⟩ : ByteArray), .slice none 0 0]) ?_ 1 _ rfl; (with_reducible repeat (first | refine blk_drewN ?_ _ | refine blk_drew ?_ | refine blk_alloc ?_ _)); refine blk_put (cs := #[.int .i64 0, .int .i64 0, .string (⟨#[]⟩ : ByteArray), .string (⟨#[]⟩ : ByteArray), .string (⟨#[]⟩ : ByteArray), .slice none 0 0]) ?_ 0 _ rfl; (with_reducible repeat (first | refine blk_drewN ?_ _ | refine blk_drew ?_ | refine blk_alloc ?_ _)); exact BK542.out⟩
            have n3_ : Aside0 (Below w.heap.size w ((((((w81.setCell ⟨gb542, 0, none⟩ (.int .i64 ((rd_T77 l0_0 a1).f0))).setCell ⟨gb542, 1, none⟩ (.int .i64 ((rd_T77 l0_0 a1).f1))).setCell ⟨gb542, 2, none⟩ (.string ((rd_T77 l0_0 a1).f2))).setCell ⟨gb542, 3, none⟩ (.string ((rd_T77 l0_0 a1).f3))).setCell ⟨gb542, 4, none⟩ (.string ((rd_T77 l0_0 a1).f4))).setCell ⟨gb542, 5, none⟩ (.slice A541_5 ((rd_T77 l0_0 a1).f5).length c541_5))) := ⟨Hf_ HB⟩
            (try clear BK537)
            (try clear BK538)
            (try clear BK542)
            (try clear HB)
            generalize ((((((w81.setCell ⟨gb542, 0, none⟩ (.int .i64 ((rd_T77 l0_0 a1).f0))).setCell ⟨gb542, 1, none⟩ (.int .i64 ((rd_T77 l0_0 a1).f1))).setCell ⟨gb542, 2, none⟩ (.string ((rd_T77 l0_0 a1).f2))).setCell ⟨gb542, 3, none⟩ (.string ((rd_T77 l0_0 a1).f3))).setCell ⟨gb542, 4, none⟩ (.string ((rd_T77 l0_0 a1).f4))).setCell ⟨gb542, 5, none⟩ (.slice A541_5 ((rd_T77 l0_0 a1).f5).length c541_5)) = w85 at n0_ n1_ n2_ n3_ ⊢
            have BK537 := n0_
            have BK538 := n1_
            have BK542 := n2_
            have HB := n3_
            clear n0_ n1_ n2_ n3_
            replace BK537 := Aside0.mk (blk_drew BK537.out); replace BK538 := Aside0.mk (blk_drew BK538.out); replace BK542 := Aside0.mk (blk_drew BK542.out); replace HB := Aside0.mk (below_drew1 HB.out)
            refine start_ (n := 11) (S := fun w' => w'.cell? ⟨gb537, 0, none⟩ = some (.slice (some ad541) l0_0.length c0_0) ∧ w'.cell? ⟨gb537, 1, none⟩ = some (.slice A0_1 l0_1.length c0_1) ∧ w'.cell? ⟨gb537, 2, none⟩ = some (.slice A0_2 l0_2.length c0_2) ∧ w'.cell? ⟨gb538, 0, none⟩ = some (.slice A2_0 l2_0.length c2_0) ∧ w'.cell? ⟨gb538, 1, none⟩ = some (.slice A2_1 l2_1.length c2_1)) (ds := []) #[false, false, false, false, false, false, false, false, false, false, false] (by kernel_rfl) rfl rfl ⟨(blk_cell BK537.out 0).trans rfl, (blk_cell BK537.out 1).trans rfl, (blk_cell BK537.out 2).trans rfl, (blk_cell BK538.out 0).trans rfl, (blk_cell BK538.out 1).trans rfl⟩ (fun hHeld => ?_); refine with_tabW impl_ValueOf.tab11 impl_ValueOf.bits11 (fun HT_ HW_ => ?_)
            generalize w85.drew = w86 at BK537 BK538 BK542 HB hHeld ⊢
            refine Pu_ 2 (some 46) HT_ ?_
            refine Tk_ 0 (some 44) HT_ HW_ hHeld ?_
            refine Tk_ 1 (some 45) HT_ HW_ hHeld ?_
            refine Tk_ 4 (some 48) HT_ HW_ hHeld ?_
            refine On_ 3 (some 47) HT_ (fun K hK => ?_)
            refine Gs_ Try.func105 ((impl_kidAt.calls _ _ l0_0 _ _ l0_1 _ _ l0_2 a1 0 t545 _ (Sc_ HR0_0 HB) HC0_0.out (Sc_ HR0_1 HB) HC0_1.out (Sc_ HR0_2 HB) HC0_2.out A46.out).mono ?_)
            rintro e w87 ⟨rfl, hb⟩
            refine ⟨_, rfl, ?_⟩
            replace BK537 := Bb_ BK537 hb; replace BK538 := Bb_ BK538 hb; replace BK542 := Bb_ BK542 hb; replace HB := Hs_ HB hb
            clear hb
            refine hK.out _ _ ⟨(blk_cell BK537.out 0).trans rfl, (blk_cell BK537.out 1).trans rfl, (blk_cell BK537.out 2).trans rfl, (blk_cell BK538.out 0).trans rfl, (blk_cell BK538.out 1).trans rfl⟩ (fun hHeld => ?_)
            clear hK K
            refine No_ (some 47) ?_
            refine On_ 5 (some 49) HT_ (fun K hK => ?_)
            refine Gs_ Try.func50 ((ih kj3 (by have := HJ3.out; omega) _ _ l0_0 _ _ l0_1 _ _ l0_2 t545 _ _ l2_0 _ _ l2_1 t546 t547 _ (Sc_ HR0_0 HB) HC0_0.out (Sc_ HR0_1 HB) HC0_1.out (Sc_ HR0_2 HB) HC0_2.out (Sc_ HR2_0 HB) HC2_0.out (Sc_ HR2_1 HB) HC2_1.out A47.out).mono ?_)
            rintro e w88 ⟨rfl, hb⟩
            refine ⟨_, rfl, ?_⟩
            replace BK537 := Bb_ BK537 hb; replace BK538 := Bb_ BK538 hb; replace BK542 := Bb_ BK542 hb; replace HB := Hs_ HB hb
            clear hb
            refine hK.out _ _ ⟨(blk_cell BK537.out 0).trans rfl, (blk_cell BK537.out 1).trans rfl, (blk_cell BK537.out 2).trans rfl, (blk_cell BK538.out 0).trans rfl, (blk_cell BK538.out 1).trans rfl⟩ (fun hHeld => ?_)
            clear hK K
            refine No_ (some 49) ?_
            refine Pu_ 6 (some 43) HT_ ?_
            refine Pu_ 7 (some 50) HT_ ?_
            refine Pu_ 8 (some 51) HT_ ?_
            refine Pu_ 9 (some 9) HT_ ?_
            refine Pu_ 10 (some 10) HT_ ?_
            refine done_ (done_of HT_.out (by kernel_rfl)) ?_
            obtain ⟨hcz89_0, hcz89_1, hcz89_2, hcz89_3, hcz89_4, hcz89_5, hfz89_0, hfz89_1, hfz89_2, hfz89_3, hfz89_4, hfz89_5⟩ := Bc6_ BK542
            try go_wp2
            replace BK537 := Aside0.mk (blk_drew BK537.out); replace BK538 := Aside0.mk (blk_drew BK538.out); replace BK542 := Aside0.mk (blk_drew BK542.out); replace HB := Aside0.mk (below_drew1 HB.out)
            refine start_ (n := 11) (S := fun w' => w'.cell? ⟨gb537, 0, none⟩ = some (.slice (some ad541) l0_0.length c0_0) ∧ w'.cell? ⟨gb537, 1, none⟩ = some (.slice A0_1 l0_1.length c0_1) ∧ w'.cell? ⟨gb537, 2, none⟩ = some (.slice A0_2 l0_2.length c0_2) ∧ w'.cell? ⟨gb538, 0, none⟩ = some (.slice A2_0 l2_0.length c2_0) ∧ w'.cell? ⟨gb538, 1, none⟩ = some (.slice A2_1 l2_1.length c2_1)) (ds := []) #[false, false, false, false, false, false, false, false, false, false, false] (by kernel_rfl) rfl rfl ⟨(blk_cell BK537.out 0).trans rfl, (blk_cell BK537.out 1).trans rfl, (blk_cell BK537.out 2).trans rfl, (blk_cell BK538.out 0).trans rfl, (blk_cell BK538.out 1).trans rfl⟩ (fun hHeld => ?_); refine with_tabW impl_ValueOf.tab19 impl_ValueOf.bits19 (fun HT_ HW_ => ?_)
            generalize w88.drew = w90 at BK537 BK538 BK542 HB hHeld ⊢
            refine Pu_ 2 (some 70) HT_ ?_
            refine Tk_ 0 (some 68) HT_ HW_ hHeld ?_
            refine Tk_ 1 (some 69) HT_ HW_ hHeld ?_
            refine Tk_ 4 (some 72) HT_ HW_ hHeld ?_
            refine On_ 3 (some 71) HT_ (fun K hK => ?_)
            refine Gs_ Try.func105 ((impl_kidAt.calls _ _ l0_0 _ _ l0_1 _ _ l0_2 a1 1 t551 _ (Sc_ HR0_0 HB) HC0_0.out (Sc_ HR0_1 HB) HC0_1.out (Sc_ HR0_2 HB) HC0_2.out A75.out).mono ?_)
            rintro e w91 ⟨rfl, hb⟩
            refine ⟨_, rfl, ?_⟩
            replace BK537 := Bb_ BK537 hb; replace BK538 := Bb_ BK538 hb; replace BK542 := Bb_ BK542 hb; replace HB := Hs_ HB hb
            clear hb
            refine hK.out _ _ ⟨(blk_cell BK537.out 0).trans rfl, (blk_cell BK537.out 1).trans rfl, (blk_cell BK537.out 2).trans rfl, (blk_cell BK538.out 0).trans rfl, (blk_cell BK538.out 1).trans rfl⟩ (fun hHeld => ?_)
            clear hK K
            refine No_ (some 71) ?_
            refine On_ 5 (some 73) HT_ (fun K hK => ?_)
            refine Gs_ Try.func50 ((ih kj3 (by have := HJ3.out; omega) _ _ l0_0 _ _ l0_1 _ _ l0_2 t551 _ _ l2_0 _ _ l2_1 t552 t553 _ (Sc_ HR0_0 HB) HC0_0.out (Sc_ HR0_1 HB) HC0_1.out (Sc_ HR0_2 HB) HC0_2.out (Sc_ HR2_0 HB) HC2_0.out (Sc_ HR2_1 HB) HC2_1.out A76.out).mono ?_)
            rintro e w92 ⟨rfl, hb⟩
            refine ⟨_, rfl, ?_⟩
            replace BK537 := Bb_ BK537 hb; replace BK538 := Bb_ BK538 hb; replace BK542 := Bb_ BK542 hb; replace HB := Hs_ HB hb
            clear hb
            refine hK.out _ _ ⟨(blk_cell BK537.out 0).trans rfl, (blk_cell BK537.out 1).trans rfl, (blk_cell BK537.out 2).trans rfl, (blk_cell BK538.out 0).trans rfl, (blk_cell BK538.out 1).trans rfl⟩ (fun hHeld => ?_)
            clear hK K
            refine No_ (some 73) ?_
            refine Pu_ 6 (some 67) HT_ ?_
            refine Pu_ 7 (some 74) HT_ ?_
            refine Pu_ 8 (some 75) HT_ ?_
            refine Pu_ 9 (some 11) HT_ ?_
            refine Pu_ 10 (some 10) HT_ ?_
            refine done_ (done_of HT_.out (by kernel_rfl)) ?_
            obtain ⟨hcz93_0, hcz93_1, hcz93_2, hcz93_3, hcz93_4, hcz93_5, hfz93_0, hfz93_1, hfz93_2, hfz93_3, hfz93_4, hfz93_5⟩ := Bc6_ BK542
            try go_wp2_with (first | (refine Gl_ (some 83) Try.func108 ((impl_Calc.calls kj3 ((rd_T77 l0_0 a1).f1) t546 t552 t554 t555 _ A78.out).mono ?_); rintro e w' ⟨rfl, ⟨nd, rfl⟩⟩; refine ⟨_, rfl, ?_⟩))
            go_ret2
            exact ⟨Re_, Hf_ HB⟩
           ·rw [if_neg c77] at H
            have c77b0 := beq_eq_false_iff_ne.mpr c77
            have c77b1 := bne_iff_ne.mpr c77
            simp only [Option.some.injEq, Prod.mk.injEq] at H
            obtain ⟨rfl, rfl⟩ := H
            have hnb94 := NB537_538.out
            have hnc94 := NB538_537.out
            obtain ⟨hcz95_0, hcz95_1, hcz95_2, hfz95_0, hfz95_1, hfz95_2⟩ := Bc3_ BK537
            have p541 : 0 ≤ (a1 : Int) := of_decide_eq_true As_
            have q541 : a1 < (l0_0.length : Int) := of_decide_eq_true As_
            obtain ⟨ad541, A541_5, c541_5, e541, hx541_0, hx541_1, hx541_2, hx541_3, hx541_4, hx541_5, hl541_5, hi541_5⟩ := at_T77 HR0_0.out a1 p541 q541
            cases e541
            replace hx541_0 := Bw_ hx541_0 HB
            replace hx541_1 := Bw_ hx541_1 HB
            replace hx541_2 := Bw_ hx541_2 HB
            replace hx541_3 := Bw_ hx541_3 HB
            replace hx541_4 := Bw_ hx541_4 HB
            replace hx541_5 := Bw_ hx541_5 HB
            have HR541_5 := Aside0.mk hi541_5
            have HC541_5 := Aside0.mk hl541_5
            clear hi541_5 hl541_5
            replace p541 := eq_true p541
            replace q541 := eq_true q541
            try go_wp2_with (first | (refine Bv_ 8 #[.int .i64 0, .int .i64 0, .string (⟨#[]⟩ : ByteArray), .string (⟨#[]⟩ : ByteArray), .string (⟨#[]⟩ : ByteArray), .slice none 0 0] 77 ?_; intro gb542 hg w96 BK542 hb; have GW542 := Hg_ HB hg; have NB537_542 := Bl_ BK537 hg; have NB542_537 := Bm_ NB537_542; have NB538_542 := Bl_ BK538 hg; have NB542_538 := Bm_ NB538_542; replace BK537 := Bb_ BK537 hb; replace BK538 := Bb_ BK538 hb; replace HB := Hs_ HB hb; clear hb hg; have hnb97 := NB542_537.out; have hnc97 := NB537_542.out; have hnb98 := NB542_538.out; have hnc98 := NB538_542.out; obtain ⟨hcz99_0, hcz99_1, hcz99_2, hcz99_3, hcz99_4, hcz99_5, hfz99_0, hfz99_1, hfz99_2, hfz99_3, hfz99_4, hfz99_5⟩ := Bc6_ BK542))
            have n0_ : Aside0 (((((((w96.setCell ⟨gb542, 0, none⟩ (.int .i64 ((rd_T77 l0_0 a1).f0))).setCell ⟨gb542, 1, none⟩ (.int .i64 ((rd_T77 l0_0 a1).f1))).setCell ⟨gb542, 2, none⟩ (.string ((rd_T77 l0_0 a1).f2))).setCell ⟨gb542, 3, none⟩ (.string ((rd_T77 l0_0 a1).f3))).setCell ⟨gb542, 4, none⟩ (.string ((rd_T77 l0_0 a1).f4))).setCell ⟨gb542, 5, none⟩ (.slice A541_5 ((rd_T77 l0_0 a1).f5).length c541_5)).heap[gb537]? = some (.cells #[.slice (some ad541) l0_0.length c0_0, .slice A0_1 l0_1.length c0_1, .slice A0_2 l0_2.length c0_2] 40 (0, 0))) := ⟨by (with_reducible repeat (first | refine blk_drewN ?_ _ | refine blk_drew ?_ | refine blk_alloc ?_ _)); refine blk_far ?_ NB537_542.out _; (with_reducible repeat (first | refine blk_drewN ?_ _ | refine blk_drew ?_ | refine blk_alloc ?_ _)); refine blk_far ?_ NB537_542.out _; (with_reducible repeat (first | refine blk_drewN ?_ _ | refine blk_drew ?_ | refine blk_alloc ?_ _)); refine blk_far ?_ NB537_542.out _; (with_reducible repeat (first | refine blk_drewN ?_ _ | refine blk_drew ?_ | refine blk_alloc ?_ _)); refine blk_far ?_ NB537_542.out _; (with_reducible repeat (first | refine blk_drewN ?_ _ | refine blk_drew ?_ | refine blk_alloc ?_ _)); refine blk_far ?_ NB537_542.out _; (with_reducible repeat (first | refine blk_drewN ?_ _ | refine blk_drew ?_ | refine blk_alloc ?_ _)); refine blk_far ?_ NB537_542.out _; (with_reducible repeat (first | refine blk_drewN ?_ _ | refine blk_drew ?_ | refine blk_alloc ?_ _)); exact BK537.out⟩
            have n1_ : Aside0 (((((((w96.setCell ⟨gb542, 0, none⟩ (.int .i64 ((rd_T77 l0_0 a1).f0))).setCell ⟨gb542, 1, none⟩ (.int .i64 ((rd_T77 l0_0 a1).f1))).setCell ⟨gb542, 2, none⟩ (.string ((rd_T77 l0_0 a1).f2))).setCell ⟨gb542, 3, none⟩ (.string ((rd_T77 l0_0 a1).f3))).setCell ⟨gb542, 4, none⟩ (.string ((rd_T77 l0_0 a1).f4))).setCell ⟨gb542, 5, none⟩ (.slice A541_5 ((rd_T77 l0_0 a1).f5).length c541_5)).heap[gb538]? = some (.cells #[.slice A2_0 l2_0.length c2_0, .slice A2_1 l2_1.length c2_1] 42 (0, 0))) := ⟨by (with_reducible repeat (first | refine blk_drewN ?_ _ | refine blk_drew ?_ | refine blk_alloc ?_ _)); refine blk_far ?_ NB538_542.out _; (with_reducible repeat (first | refine blk_drewN ?_ _ | refine blk_drew ?_ | refine blk_alloc ?_ _)); refine blk_far ?_ NB538_542.out _; (with_reducible repeat (first | refine blk_drewN ?_ _ | refine blk_drew ?_ | refine blk_alloc ?_ _)); refine blk_far ?_ NB538_542.out _; (with_reducible repeat (first | refine blk_drewN ?_ _ | refine blk_drew ?_ | refine blk_alloc ?_ _)); refine blk_far ?_ NB538_542.out _; (with_reducible repeat (first | refine blk_drewN ?_ _ | refine blk_drew ?_ | refine blk_alloc ?_ _)); refine blk_far ?_ NB538_542.out _; (with_reducible repeat (first | refine blk_drewN ?_ _ | refine blk_drew ?_ | refine blk_alloc ?_ _)); refine blk_far ?_ NB538_542.out _; (with_reducible repeat (first | refine blk_drewN ?_ _ | refine blk_drew ?_ | refine blk_alloc ?_ _)); exact BK538.out⟩
            have n2_ : Aside0 (((((((w96.setCell ⟨gb542, 0, none⟩ (.int .i64 ((rd_T77 l0_0 a1).f0))).setCell ⟨gb542, 1, none⟩ (.int .i64 ((rd_T77 l0_0 a1).f1))).setCell ⟨gb542, 2, none⟩ (.string ((rd_T77 l0_0 a1).f2))).setCell ⟨gb542, 3, none⟩ (.string ((rd_T77 l0_0 a1).f3))).setCell ⟨gb542, 4, none⟩ (.string ((rd_T77 l0_0 a1).f4))).setCell ⟨gb542, 5, none⟩ (.slice A541_5 ((rd_T77 l0_0 a1).f5).length c541_5)).heap[gb542]? = some (.cells #[.int .i64 ((rd_T77 l0_0 a1).f0), .int .i64 ((rd_T77 l0_0 a1).f1), .string ((rd_T77 l0_0 a1).f2), .string ((rd_T77 l0_0 a1).f3), .string ((rd_T77 l0_0 a1).f4), .slice A541_5 ((rd_T77 l0_0 a1).f5).length c541_5] 77 (0, 0))) := ⟨by (with_reducible repeat (first | refine blk_drewN ?_ _ | refine blk_drew ?_ | refine blk_alloc ?_ _)); refine blk_put (cs := #[.int .i64 ((rd_T77 l0_0 a1).f0), .int .i64 ((rd_T77 l0_0 a1).f1), .string ((rd_T77 l0_0 a1).f2), .string ((rd_T77 l0_0 a1).f3), .string ((rd_T77 l0_0 a1).f4), .slice none 0 0]) ?_ 5 _ rfl; (with_reducible repeat (first | refine blk_drewN ?_ _ | refine blk_drew ?_ | refine blk_alloc ?_ _)); refine blk_put (cs := #[.int .i64 ((rd_T77 l0_0 a1).f0), .int .i64 ((rd_T77 l0_0 a1).f1), .string ((rd_T77 l0_0 a1).f2), .string ((rd_T77 l0_0 a1).f3), .string (⟨#[]⟩ : ByteArray), .slice none 0 0]) ?_ 4 _ rfl; (with_reducible repeat (first | refine blk_drewN ?_ _ | refine blk_drew ?_ | refine blk_alloc ?_ _)); refine blk_put (cs := #[.int .i64 ((rd_T77 l0_0 a1).f0), .int .i64 ((rd_T77 l0_0 a1).f1), .string ((rd_T77 l0_0 a1).f2), .string (⟨#[]⟩ : ByteArray), .string (⟨#[]⟩ : ByteArray), .slice none 0 0]) ?_ 3 _ rfl; (with_reducible repeat (first | refine blk_drewN ?_ _ | refine blk_drew ?_ | refine blk_alloc ?_ _)); refine blk_put (cs := #[.int .i64 ((rd_T77 l0_0 a1).f0), .int .i64 ((rd_T77 l0_0 a1).f1), .string (⟨#[]⟩ : ByteArray), .string (⟨#[]⟩ : ByteArray), .string (⟨#[]⟩ : ByteArray), .slice none 0 0]) ?_ 2 _ rfl; (with_reducible repeat (first | refine blk_drewN ?_ _ | refine blk_drew ?_ | refine blk_alloc ?_ _)); refine blk_put (cs := #[.int .i64 ((rd_T77 l0_0 a1).f0), .int .i64 0, .string (⟨#[]⟩ : ByteArray), .string (⟨#[]⟩ : ByteArray), .string (⟨#[]⟩ : ByteArray), .slice none 0 0]) ?_ 1 _ rfl; (with_reducible repeat (first | refine blk_drewN ?_ _ | refine blk_drew ?_ | refine blk_alloc ?_ _)); refine blk_put (cs := #[.int .i64 0, .int .i64 0, .string (⟨#[]⟩ : ByteArray), .string (⟨#[]⟩ : ByteArray), .string (⟨#[]⟩ : ByteArray), .slice none 0 0]) ?_ 0 _ rfl; (with_reducible repeat (first | refine blk_drewN ?_ _ | refine blk_drew ?_ | refine blk_alloc ?_ _)); exact BK542.out⟩
            have n3_ : Aside0 (Below w.heap.size w ((((((w96.setCell ⟨gb542, 0, none⟩ (.int .i64 ((rd_T77 l0_0 a1).f0))).setCell ⟨gb542, 1, none⟩ (.int .i64 ((rd_T77 l0_0 a1).f1))).setCell ⟨gb542, 2, none⟩ (.string ((rd_T77 l0_0 a1).f2))).setCell ⟨gb542, 3, none⟩ (.string ((rd_T77 l0_0 a1).f3))).setCell ⟨gb542, 4, none⟩ (.string ((rd_T77 l0_0 a1).f4))).setCell ⟨gb542, 5, none⟩ (.slice A541_5 ((rd_T77 l0_0 a1).f5).length c541_5))) := ⟨Hf_ HB⟩
            (try clear BK537)
            (try clear BK538)
            (try clear BK542)
            (try clear HB)
            generalize ((((((w96.setCell ⟨gb542, 0, none⟩ (.int .i64 ((rd_T77 l0_0 a1).f0))).setCell ⟨gb542, 1, none⟩ (.int .i64 ((rd_T77 l0_0 a1).f1))).setCell ⟨gb542, 2, none⟩ (.string ((rd_T77 l0_0 a1).f2))).setCell ⟨gb542, 3, none⟩ (.string ((rd_T77 l0_0 a1).f3))).setCell ⟨gb542, 4, none⟩ (.string ((rd_T77 l0_0 a1).f4))).setCell ⟨gb542, 5, none⟩ (.slice A541_5 ((rd_T77 l0_0 a1).f5).length c541_5)) = w100 at n0_ n1_ n2_ n3_ ⊢
            have BK537 := n0_
            have BK538 := n1_
            have BK542 := n2_
            have HB := n3_
            clear n0_ n1_ n2_ n3_
            replace BK537 := Aside0.mk (blk_drew BK537.out); replace BK538 := Aside0.mk (blk_drew BK538.out); replace BK542 := Aside0.mk (blk_drew BK542.out); replace HB := Aside0.mk (below_drew1 HB.out)
            refine start_ (n := 11) (S := fun w' => w'.cell? ⟨gb537, 0, none⟩ = some (.slice (some ad541) l0_0.length c0_0) ∧ w'.cell? ⟨gb537, 1, none⟩ = some (.slice A0_1 l0_1.length c0_1) ∧ w'.cell? ⟨gb537, 2, none⟩ = some (.slice A0_2 l0_2.length c0_2) ∧ w'.cell? ⟨gb538, 0, none⟩ = some (.slice A2_0 l2_0.length c2_0) ∧ w'.cell? ⟨gb538, 1, none⟩ = some (.slice A2_1 l2_1.length c2_1)) (ds := []) #[false, false, false, false, false, false, false, false, false, false, false] (by kernel_rfl) rfl rfl ⟨(blk_cell BK537.out 0).trans rfl, (blk_cell BK537.out 1).trans rfl, (blk_cell BK537.out 2).trans rfl, (blk_cell BK538.out 0).trans rfl, (blk_cell BK538.out 1).trans rfl⟩ (fun hHeld => ?_); refine with_tabW impl_ValueOf.tab11 impl_ValueOf.bits11 (fun HT_ HW_ => ?_)
            generalize w100.drew = w101 at BK537 BK538 BK542 HB hHeld ⊢
            refine Pu_ 2 (some 46) HT_ ?_
            refine Tk_ 0 (some 44) HT_ HW_ hHeld ?_
            refine Tk_ 1 (some 45) HT_ HW_ hHeld ?_
            refine Tk_ 4 (some 48) HT_ HW_ hHeld ?_
            refine On_ 3 (some 47) HT_ (fun K hK => ?_)
            refine Gs_ Try.func105 ((impl_kidAt.calls _ _ l0_0 _ _ l0_1 _ _ l0_2 a1 0 t545 _ (Sc_ HR0_0 HB) HC0_0.out (Sc_ HR0_1 HB) HC0_1.out (Sc_ HR0_2 HB) HC0_2.out A46.out).mono ?_)
            rintro e w102 ⟨rfl, hb⟩
            refine ⟨_, rfl, ?_⟩
            replace BK537 := Bb_ BK537 hb; replace BK538 := Bb_ BK538 hb; replace BK542 := Bb_ BK542 hb; replace HB := Hs_ HB hb
            clear hb
            refine hK.out _ _ ⟨(blk_cell BK537.out 0).trans rfl, (blk_cell BK537.out 1).trans rfl, (blk_cell BK537.out 2).trans rfl, (blk_cell BK538.out 0).trans rfl, (blk_cell BK538.out 1).trans rfl⟩ (fun hHeld => ?_)
            clear hK K
            refine No_ (some 47) ?_
            refine On_ 5 (some 49) HT_ (fun K hK => ?_)
            refine Gs_ Try.func50 ((ih kj3 (by have := HJ3.out; omega) _ _ l0_0 _ _ l0_1 _ _ l0_2 t545 _ _ l2_0 _ _ l2_1 t546 t547 _ (Sc_ HR0_0 HB) HC0_0.out (Sc_ HR0_1 HB) HC0_1.out (Sc_ HR0_2 HB) HC0_2.out (Sc_ HR2_0 HB) HC2_0.out (Sc_ HR2_1 HB) HC2_1.out A47.out).mono ?_)
            rintro e w103 ⟨rfl, hb⟩
            refine ⟨_, rfl, ?_⟩
            replace BK537 := Bb_ BK537 hb; replace BK538 := Bb_ BK538 hb; replace BK542 := Bb_ BK542 hb; replace HB := Hs_ HB hb
            clear hb
            refine hK.out _ _ ⟨(blk_cell BK537.out 0).trans rfl, (blk_cell BK537.out 1).trans rfl, (blk_cell BK537.out 2).trans rfl, (blk_cell BK538.out 0).trans rfl, (blk_cell BK538.out 1).trans rfl⟩ (fun hHeld => ?_)
            clear hK K
            refine No_ (some 49) ?_
            refine Pu_ 6 (some 43) HT_ ?_
            refine Pu_ 7 (some 50) HT_ ?_
            refine Pu_ 8 (some 51) HT_ ?_
            refine Pu_ 9 (some 9) HT_ ?_
            refine Pu_ 10 (some 10) HT_ ?_
            refine done_ (done_of HT_.out (by kernel_rfl)) ?_
            obtain ⟨hcz104_0, hcz104_1, hcz104_2, hcz104_3, hcz104_4, hcz104_5, hfz104_0, hfz104_1, hfz104_2, hfz104_3, hfz104_4, hfz104_5⟩ := Bc6_ BK542
            try go_wp2
            replace BK537 := Aside0.mk (blk_drew BK537.out); replace BK538 := Aside0.mk (blk_drew BK538.out); replace BK542 := Aside0.mk (blk_drew BK542.out); replace HB := Aside0.mk (below_drew1 HB.out)
            refine start_ (n := 11) (S := fun w' => w'.cell? ⟨gb537, 0, none⟩ = some (.slice (some ad541) l0_0.length c0_0) ∧ w'.cell? ⟨gb537, 1, none⟩ = some (.slice A0_1 l0_1.length c0_1) ∧ w'.cell? ⟨gb537, 2, none⟩ = some (.slice A0_2 l0_2.length c0_2) ∧ w'.cell? ⟨gb538, 0, none⟩ = some (.slice A2_0 l2_0.length c2_0) ∧ w'.cell? ⟨gb538, 1, none⟩ = some (.slice A2_1 l2_1.length c2_1)) (ds := []) #[false, false, false, false, false, false, false, false, false, false, false] (by kernel_rfl) rfl rfl ⟨(blk_cell BK537.out 0).trans rfl, (blk_cell BK537.out 1).trans rfl, (blk_cell BK537.out 2).trans rfl, (blk_cell BK538.out 0).trans rfl, (blk_cell BK538.out 1).trans rfl⟩ (fun hHeld => ?_); refine with_tabW impl_ValueOf.tab19 impl_ValueOf.bits19 (fun HT_ HW_ => ?_)
            generalize w103.drew = w105 at BK537 BK538 BK542 HB hHeld ⊢
            refine Pu_ 2 (some 70) HT_ ?_
            refine Tk_ 0 (some 68) HT_ HW_ hHeld ?_
            refine Tk_ 1 (some 69) HT_ HW_ hHeld ?_
            refine Tk_ 4 (some 72) HT_ HW_ hHeld ?_
            refine On_ 3 (some 71) HT_ (fun K hK => ?_)
            refine Gs_ Try.func105 ((impl_kidAt.calls _ _ l0_0 _ _ l0_1 _ _ l0_2 a1 1 t551 _ (Sc_ HR0_0 HB) HC0_0.out (Sc_ HR0_1 HB) HC0_1.out (Sc_ HR0_2 HB) HC0_2.out A75.out).mono ?_)
            rintro e w106 ⟨rfl, hb⟩
            refine ⟨_, rfl, ?_⟩
            replace BK537 := Bb_ BK537 hb; replace BK538 := Bb_ BK538 hb; replace BK542 := Bb_ BK542 hb; replace HB := Hs_ HB hb
            clear hb
            refine hK.out _ _ ⟨(blk_cell BK537.out 0).trans rfl, (blk_cell BK537.out 1).trans rfl, (blk_cell BK537.out 2).trans rfl, (blk_cell BK538.out 0).trans rfl, (blk_cell BK538.out 1).trans rfl⟩ (fun hHeld => ?_)
            clear hK K
            refine No_ (some 71) ?_
            refine On_ 5 (some 73) HT_ (fun K hK => ?_)
            refine Gs_ Try.func50 ((ih kj3 (by have := HJ3.out; omega) _ _ l0_0 _ _ l0_1 _ _ l0_2 t551 _ _ l2_0 _ _ l2_1 t552 t553 _ (Sc_ HR0_0 HB) HC0_0.out (Sc_ HR0_1 HB) HC0_1.out (Sc_ HR0_2 HB) HC0_2.out (Sc_ HR2_0 HB) HC2_0.out (Sc_ HR2_1 HB) HC2_1.out A76.out).mono ?_)
            rintro e w107 ⟨rfl, hb⟩
            refine ⟨_, rfl, ?_⟩
            replace BK537 := Bb_ BK537 hb; replace BK538 := Bb_ BK538 hb; replace BK542 := Bb_ BK542 hb; replace HB := Hs_ HB hb
            clear hb
            refine hK.out _ _ ⟨(blk_cell BK537.out 0).trans rfl, (blk_cell BK537.out 1).trans rfl, (blk_cell BK537.out 2).trans rfl, (blk_cell BK538.out 0).trans rfl, (blk_cell BK538.out 1).trans rfl⟩ (fun hHeld => ?_)
            clear hK K
            refine No_ (some 73) ?_
            refine Pu_ 6 (some 67) HT_ ?_
            refine Pu_ 7 (some 74) HT_ ?_
            refine Pu_ 8 (some 75) HT_ ?_
            refine Pu_ 9 (some 11) HT_ ?_
            refine Pu_ 10 (some 10) HT_ ?_
            refine done_ (done_of HT_.out (by kernel_rfl)) ?_
            try go_wp2
            go_ret2
            exact ⟨Re_, Hf_ HB⟩
        ·rw [if_neg c48] at H
         have c48b0 := beq_eq_false_iff_ne.mpr c48
         have c48b1 := bne_iff_ne.mpr c48
         simp only [Option.some.injEq, Prod.mk.injEq] at H
         obtain ⟨rfl, rfl⟩ := H
         have hnb108 := NB537_538.out
         have hnc108 := NB538_537.out
         obtain ⟨hcz109_0, hcz109_1, hcz109_2, hfz109_0, hfz109_1, hfz109_2⟩ := Bc3_ BK537
         have p541 : 0 ≤ (a1 : Int) := of_decide_eq_true As_
         have q541 : a1 < (l0_0.length : Int) := of_decide_eq_true As_
         obtain ⟨ad541, A541_5, c541_5, e541, hx541_0, hx541_1, hx541_2, hx541_3, hx541_4, hx541_5, hl541_5, hi541_5⟩ := at_T77 HR0_0.out a1 p541 q541
         cases e541
         replace hx541_0 := Bw_ hx541_0 HB
         replace hx541_1 := Bw_ hx541_1 HB
         replace hx541_2 := Bw_ hx541_2 HB
         replace hx541_3 := Bw_ hx541_3 HB
         replace hx541_4 := Bw_ hx541_4 HB
         replace hx541_5 := Bw_ hx541_5 HB
         have HR541_5 := Aside0.mk hi541_5
         have HC541_5 := Aside0.mk hl541_5
         clear hi541_5 hl541_5
         replace p541 := eq_true p541
         replace q541 := eq_true q541
         try go_wp2_with (first | (refine Bv_ 8 #[.int .i64 0, .int .i64 0, .string (⟨#[]⟩ : ByteArray), .string (⟨#[]⟩ : ByteArray), .string (⟨#[]⟩ : ByteArray), .slice none 0 0] 77 ?_; intro gb542 hg w110 BK542 hb; have GW542 := Hg_ HB hg; have NB537_542 := Bl_ BK537 hg; have NB542_537 := Bm_ NB537_542; have NB538_542 := Bl_ BK538 hg; have NB542_538 := Bm_ NB538_542; replace BK537 := Bb_ BK537 hb; replace BK538 := Bb_ BK538 hb; replace HB := Hs_ HB hb; clear hb hg; have hnb111 := NB542_537.out; have hnc111 := NB537_542.out; have hnb112 := NB542_538.out; have hnc112 := NB538_542.out; obtain ⟨hcz113_0, hcz113_1, hcz113_2, hcz113_3, hcz113_4, hcz113_5, hfz113_0, hfz113_1, hfz113_2, hfz113_3, hfz113_4, hfz113_5⟩ := Bc6_ BK542))
         have n0_ : Aside0 (((((((w110.setCell ⟨gb542, 0, none⟩ (.int .i64 ((rd_T77 l0_0 a1).f0))).setCell ⟨gb542, 1, none⟩ (.int .i64 ((rd_T77 l0_0 a1).f1))).setCell ⟨gb542, 2, none⟩ (.string ((rd_T77 l0_0 a1).f2))).setCell ⟨gb542, 3, none⟩ (.string ((rd_T77 l0_0 a1).f3))).setCell ⟨gb542, 4, none⟩ (.string ((rd_T77 l0_0 a1).f4))).setCell ⟨gb542, 5, none⟩ (.slice A541_5 ((rd_T77 l0_0 a1).f5).length c541_5)).heap[gb537]? = some (.cells #[.slice (some ad541) l0_0.length c0_0, .slice A0_1 l0_1.length c0_1, .slice A0_2 l0_2.length c0_2] 40 (0, 0))) := ⟨by (with_reducible repeat (first | refine blk_drewN ?_ _ | refine blk_drew ?_ | refine blk_alloc ?_ _)); refine blk_far ?_ NB537_542.out _; (with_reducible repeat (first | refine blk_drewN ?_ _ | refine blk_drew ?_ | refine blk_alloc ?_ _)); refine blk_far ?_ NB537_542.out _; (with_reducible repeat (first | refine blk_drewN ?_ _ | refine blk_drew ?_ | refine blk_alloc ?_ _)); refine blk_far ?_ NB537_542.out _; (with_reducible repeat (first | refine blk_drewN ?_ _ | refine blk_drew ?_ | refine blk_alloc ?_ _)); refine blk_far ?_ NB537_542.out _; (with_reducible repeat (first | refine blk_drewN ?_ _ | refine blk_drew ?_ | refine blk_alloc ?_ _)); refine blk_far ?_ NB537_542.out _; (with_reducible repeat (first | refine blk_drewN ?_ _ | refine blk_drew ?_ | refine blk_alloc ?_ _)); refine blk_far ?_ NB537_542.out _; (with_reducible repeat (first | refine blk_drewN ?_ _ | refine blk_drew ?_ | refine blk_alloc ?_ _)); exact BK537.out⟩
         have n1_ : Aside0 (((((((w110.setCell ⟨gb542, 0, none⟩ (.int .i64 ((rd_T77 l0_0 a1).f0))).setCell ⟨gb542, 1, none⟩ (.int .i64 ((rd_T77 l0_0 a1).f1))).setCell ⟨gb542, 2, none⟩ (.string ((rd_T77 l0_0 a1).f2))).setCell ⟨gb542, 3, none⟩ (.string ((rd_T77 l0_0 a1).f3))).setCell ⟨gb542, 4, none⟩ (.string ((rd_T77 l0_0 a1).f4))).setCell ⟨gb542, 5, none⟩ (.slice A541_5 ((rd_T77 l0_0 a1).f5).length c541_5)).heap[gb538]? = some (.cells #[.slice A2_0 l2_0.length c2_0, .slice A2_1 l2_1.length c2_1] 42 (0, 0))) := ⟨by (with_reducible repeat (first | refine blk_drewN ?_ _ | refine blk_drew ?_ | refine blk_alloc ?_ _)); refine blk_far ?_ NB538_542.out _; (with_reducible repeat (first | refine blk_drewN ?_ _ | refine blk_drew ?_ | refine blk_alloc ?_ _)); refine blk_far ?_ NB538_542.out _; (with_reducible repeat (first | refine blk_drewN ?_ _ | refine blk_drew ?_ | refine blk_alloc ?_ _)); refine blk_far ?_ NB538_542.out _; (with_reducible repeat (first | refine blk_drewN ?_ _ | refine blk_drew ?_ | refine blk_alloc ?_ _)); refine blk_far ?_ NB538_542.out _; (with_reducible repeat (first | refine blk_drewN ?_ _ | refine blk_drew ?_ | refine blk_alloc ?_ _)); refine blk_far ?_ NB538_542.out _; (with_reducible repeat (first | refine blk_drewN ?_ _ | refine blk_drew ?_ | refine blk_alloc ?_ _)); refine blk_far ?_ NB538_542.out _; (with_reducible repeat (first | refine blk_drewN ?_ _ | refine blk_drew ?_ | refine blk_alloc ?_ _)); exact BK538.out⟩
         have n2_ : Aside0 (((((((w110.setCell ⟨gb542, 0, none⟩ (.int .i64 ((rd_T77 l0_0 a1).f0))).setCell ⟨gb542, 1, none⟩ (.int .i64 ((rd_T77 l0_0 a1).f1))).setCell ⟨gb542, 2, none⟩ (.string ((rd_T77 l0_0 a1).f2))).setCell ⟨gb542, 3, none⟩ (.string ((rd_T77 l0_0 a1).f3))).setCell ⟨gb542, 4, none⟩ (.string ((rd_T77 l0_0 a1).f4))).setCell ⟨gb542, 5, none⟩ (.slice A541_5 ((rd_T77 l0_0 a1).f5).length c541_5)).heap[gb542]? = some (.cells #[.int .i64 ((rd_T77 l0_0 a1).f0), .int .i64 ((rd_T77 l0_0 a1).f1), .string ((rd_T77 l0_0 a1).f2), .string ((rd_T77 l0_0 a1).f3), .string ((rd_T77 l0_0 a1).f4), .slice A541_5 ((rd_T77 l0_0 a1).f5).length c541_5] 77 (0, 0))) := ⟨by (with_reducible repeat (first | refine blk_drewN ?_ _ | refine blk_drew ?_ | refine blk_alloc ?_ _)); refine blk_put (cs := #[.int .i64 ((rd_T77 l0_0 a1).f0), .int .i64 ((rd_T77 l0_0 a1).f1), .string ((rd_T77 l0_0 a1).f2), .string ((rd_T77 l0_0 a1).f3), .string ((rd_T77 l0_0 a1).f4), .slice none 0 0]) ?_ 5 _ rfl; (with_reducible repeat (first | refine blk_drewN ?_ _ | refine blk_drew ?_ | refine blk_alloc ?_ _)); refine blk_put (cs := #[.int .i64 ((rd_T77 l0_0 a1).f0), .int .i64 ((rd_T77 l0_0 a1).f1), .string ((rd_T77 l0_0 a1).f2), .string ((rd_T77 l0_0 a1).f3), .string (⟨#[]⟩ : ByteArray), .slice none 0 0]) ?_ 4 _ rfl; (with_reducible repeat (first | refine blk_drewN ?_ _ | refine blk_drew ?_ | refine blk_alloc ?_ _)); refine blk_put (cs := #[.int .i64 ((rd_T77 l0_0 a1).f0), .int .i64 ((rd_T77 l0_0 a1).f1), .string ((rd_T77 l0_0 a1).f2), .string (⟨#[]⟩ : ByteArray), .string (⟨#[]⟩ : ByteArray), .slice none 0 0]) ?_ 3 _ rfl; (with_reducible repeat (first | refine blk_drewN ?_ _ | refine blk_drew ?_ | refine blk_alloc ?_ _)); refine blk_put (cs := #[.int .i64 ((rd_T77 l0_0 a1).f0), .int .i64 ((rd_T77 l0_0 a1).f1), .string (⟨#[]⟩ : ByteArray), .string (⟨#[]⟩ : ByteArray), .string (⟨#[]⟩ : ByteArray), .slice none 0 0]) ?_ 2 _ rfl; (with_reducible repeat (first | refine blk_drewN ?_ _ | refine blk_drew ?_ | refine blk_alloc ?_ _)); refine blk_put (cs := #[.int .i64 ((rd_T77 l0_0 a1).f0), .int .i64 0, .string (⟨#[]⟩ : ByteArray), .string (⟨#[]⟩ : ByteArray), .string (⟨#[]⟩ : ByteArray), .slice none 0 0]) ?_ 1 _ rfl; (with_reducible repeat (first | refine blk_drewN ?_ _ | refine blk_drew ?_ | refine blk_alloc ?_ _)); refine blk_put (cs := #[.int .i64 0, .int .i64 0, .string (⟨#[]⟩ : ByteArray), .string (⟨#[]⟩ : ByteArray), .string (⟨#[]⟩ : ByteArray), .slice none 0 0]) ?_ 0 _ rfl; (with_reducible repeat (first | refine blk_drewN ?_ _ | refine blk_drew ?_ | refine blk_alloc ?_ _)); exact BK542.out⟩
         have n3_ : Aside0 (Below w.heap.size w ((((((w110.setCell ⟨gb542, 0, none⟩ (.int .i64 ((rd_T77 l0_0 a1).f0))).setCell ⟨gb542, 1, none⟩ (.int .i64 ((rd_T77 l0_0 a1).f1))).setCell ⟨gb542, 2, none⟩ (.string ((rd_T77 l0_0 a1).f2))).setCell ⟨gb542, 3, none⟩ (.string ((rd_T77 l0_0 a1).f3))).setCell ⟨gb542, 4, none⟩ (.string ((rd_T77 l0_0 a1).f4))).setCell ⟨gb542, 5, none⟩ (.slice A541_5 ((rd_T77 l0_0 a1).f5).length c541_5))) := ⟨Hf_ HB⟩
         (try clear BK537)
         (try clear BK538)
         (try clear BK542)
         (try clear HB)
         generalize ((((((w110.setCell ⟨gb542, 0, none⟩ (.int .i64 ((rd_T77 l0_0 a1).f0))).setCell ⟨gb542, 1, none⟩ (.int .i64 ((rd_T77 l0_0 a1).f1))).setCell ⟨gb542, 2, none⟩ (.string ((rd_T77 l0_0 a1).f2))).setCell ⟨gb542, 3, none⟩ (.string ((rd_T77 l0_0 a1).f3))).setCell ⟨gb542, 4, none⟩ (.string ((rd_T77 l0_0 a1).f4))).setCell ⟨gb542, 5, none⟩ (.slice A541_5 ((rd_T77 l0_0 a1).f5).length c541_5)) = w114 at n0_ n1_ n2_ n3_ ⊢
         have BK537 := n0_
         have BK538 := n1_
         have BK542 := n2_
         have HB := n3_
         clear n0_ n1_ n2_ n3_
         replace BK537 := Aside0.mk (blk_drew BK537.out); replace BK538 := Aside0.mk (blk_drew BK538.out); replace BK542 := Aside0.mk (blk_drew BK542.out); replace HB := Aside0.mk (below_drew1 HB.out)
         refine start_ (n := 11) (S := fun w' => w'.cell? ⟨gb537, 0, none⟩ = some (.slice (some ad541) l0_0.length c0_0) ∧ w'.cell? ⟨gb537, 1, none⟩ = some (.slice A0_1 l0_1.length c0_1) ∧ w'.cell? ⟨gb537, 2, none⟩ = some (.slice A0_2 l0_2.length c0_2) ∧ w'.cell? ⟨gb538, 0, none⟩ = some (.slice A2_0 l2_0.length c2_0) ∧ w'.cell? ⟨gb538, 1, none⟩ = some (.slice A2_1 l2_1.length c2_1)) (ds := []) #[false, false, false, false, false, false, false, false, false, false, false] (by kernel_rfl) rfl rfl ⟨(blk_cell BK537.out 0).trans rfl, (blk_cell BK537.out 1).trans rfl, (blk_cell BK537.out 2).trans rfl, (blk_cell BK538.out 0).trans rfl, (blk_cell BK538.out 1).trans rfl⟩ (fun hHeld => ?_); refine with_tabW impl_ValueOf.tab11 impl_ValueOf.bits11 (fun HT_ HW_ => ?_)
         generalize w114.drew = w115 at BK537 BK538 BK542 HB hHeld ⊢
         refine Pu_ 2 (some 46) HT_ ?_
         refine Tk_ 0 (some 44) HT_ HW_ hHeld ?_
         refine Tk_ 1 (some 45) HT_ HW_ hHeld ?_
         refine Tk_ 4 (some 48) HT_ HW_ hHeld ?_
         refine On_ 3 (some 47) HT_ (fun K hK => ?_)
         refine Gs_ Try.func105 ((impl_kidAt.calls _ _ l0_0 _ _ l0_1 _ _ l0_2 a1 0 t545 _ (Sc_ HR0_0 HB) HC0_0.out (Sc_ HR0_1 HB) HC0_1.out (Sc_ HR0_2 HB) HC0_2.out A46.out).mono ?_)
         rintro e w116 ⟨rfl, hb⟩
         refine ⟨_, rfl, ?_⟩
         replace BK537 := Bb_ BK537 hb; replace BK538 := Bb_ BK538 hb; replace BK542 := Bb_ BK542 hb; replace HB := Hs_ HB hb
         clear hb
         refine hK.out _ _ ⟨(blk_cell BK537.out 0).trans rfl, (blk_cell BK537.out 1).trans rfl, (blk_cell BK537.out 2).trans rfl, (blk_cell BK538.out 0).trans rfl, (blk_cell BK538.out 1).trans rfl⟩ (fun hHeld => ?_)
         clear hK K
         refine No_ (some 47) ?_
         refine On_ 5 (some 49) HT_ (fun K hK => ?_)
         refine Gs_ Try.func50 ((ih kj3 (by have := HJ3.out; omega) _ _ l0_0 _ _ l0_1 _ _ l0_2 t545 _ _ l2_0 _ _ l2_1 t546 t547 _ (Sc_ HR0_0 HB) HC0_0.out (Sc_ HR0_1 HB) HC0_1.out (Sc_ HR0_2 HB) HC0_2.out (Sc_ HR2_0 HB) HC2_0.out (Sc_ HR2_1 HB) HC2_1.out A47.out).mono ?_)
         rintro e w117 ⟨rfl, hb⟩
         refine ⟨_, rfl, ?_⟩
         replace BK537 := Bb_ BK537 hb; replace BK538 := Bb_ BK538 hb; replace BK542 := Bb_ BK542 hb; replace HB := Hs_ HB hb
         clear hb
         refine hK.out _ _ ⟨(blk_cell BK537.out 0).trans rfl, (blk_cell BK537.out 1).trans rfl, (blk_cell BK537.out 2).trans rfl, (blk_cell BK538.out 0).trans rfl, (blk_cell BK538.out 1).trans rfl⟩ (fun hHeld => ?_)
         clear hK K
         refine No_ (some 49) ?_
         refine Pu_ 6 (some 43) HT_ ?_
         refine Pu_ 7 (some 50) HT_ ?_
         refine Pu_ 8 (some 51) HT_ ?_
         refine Pu_ 9 (some 9) HT_ ?_
         refine Pu_ 10 (some 10) HT_ ?_
         refine done_ (done_of HT_.out (by kernel_rfl)) ?_
         try go_wp2
         go_ret2
         exact ⟨Re_, Hf_ HB⟩
     ·rw [if_neg c20] at H
      exact absurd H (by simp)
    ·rw [if_neg c19] at H
     exact absurd H (by simp)

end Go.Proofs.Ytmbkcbgbienjoaa.PFnExactValueOf
