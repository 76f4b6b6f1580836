/- The machine side of the law FnExactValueOf: for each function that it reaches, a Lean function and its contract. Written by a program of this session's over the kit's print. No condition. -/
import Derived.Test.YtmbkcbgbienjoaaCmq
import Derived.Test.YtmbkcbgbienjoaaPFnExactValueOfx0
import Derived.Test.YtmbkcbgbienjoaaPFnExactValueOfx7
namespace Go.Proofs.Ytmbkcbgbienjoaa.PFnExactValueOf
open Go.RowKit Go.Proofs.YtmbkcbgbienjoaaW.PrintWords Go.Proofs.YtmbkcbgbienjoaaW.PrintLast Go.Proofs.YtmbkcbgbienjoaaW.PrintMore Go.Proofs.Ytmbkcbgbienjoaa.Cmp
attribute [local go_sem] max2_int min2_int max_two min_two max_three min_three max_four min_four   -- for this text's walks alone
set_option linter.unusedVariables false
set_option maxHeartbeats 8000000
set_option maxRecDepth 100000
set_option linter.unusedSimpArgs false

/-! ### spec_l05Blocks: function 124 -/
def spec_l05Blocks.l0 : Nat → Int → Int → List (S77) → List (S106) → List (S103) → Option (Bool)
 | 0, _, _, _, _, _ => none
 | k + 1, x1, x7, x274000, x274001, x274002 => if 0 ≤ x1 then (if x1 < (x274000.length : Int) then (if x7 < (((rd_T77 x274000 x1).f5).length : Int) then ((spec_l05Kid.f x274000 x274001 x274002 x1 x7).bind fun t275 => (if t275 = 20 then (spec_l05Blocks.l0 k x1 (wrap64 (x7 + 1)) x274000 x274001 x274002) else (some false))) else (some true)) else (none)) else (none)
def spec_l05Blocks.f (k : Nat) (l0_0 : List (S77)) (l0_1 : List (S106)) (l0_2 : List (S103)) (a1 : Int) (a2 : Int) : Option (Bool) := spec_l05Blocks.l0 k a1 a2 l0_0 l0_1 l0_2
theorem spec_l05Blocks.calls (k : Nat) (A0_0 : Option Addr) (c0_0 : Nat) (l0_0 : List (S77)) (A0_1 : Option Addr) (c0_1 : Nat) (l0_1 : List (S106)) (A0_2 : Option Addr) (c0_2 : Nat) (l0_2 : List (S103)) (a1 : Int) (a2 : Int) (r : Bool) (w : World) (hr0_0 : Kd.C k77 w A0_0 l0_0.length l0_0) (hc0_0 : l0_0.length ≤ c0_0) (hr0_1 : Kd.C k106 w A0_1 l0_1.length l0_1) (hc0_1 : l0_1.length ≤ c0_1) (hr0_2 : Kd.C k103 w A0_2 l0_2.length l0_2) (hc0_2 : l0_2.length ≤ c0_2) (h : spec_l05Blocks.f k l0_0 l0_1 l0_2 a1 a2 = some r) :
  Calls Try.prog 124 #[.agg #[.slice A0_0 l0_0.length c0_0, .slice A0_1 l0_1.length c0_1, .slice A0_2 l0_2.length c0_2], .int .i64 a1, .int .i64 a2] w fun e w' => e = .returned (.bool r) ∧ Below w.heap.size w w' := by
 have hu40 := Try.underlying40
 have HR0_0 := Aside0.mk hr0_0
 have HC0_0 := Aside0.mk hc0_0
 clear hr0_0 hc0_0
 have HR0_1 := Aside0.mk hr0_1
 have HC0_1 := Aside0.mk hc0_1
 clear hr0_1 hc0_1
 have HR0_2 := Aside0.mk hr0_2
 have HC0_2 := Aside0.mk hc0_2
 clear hr0_2 hc0_2
 have HB := Aside0.mk (Below.refl w.heap.size w)
 have H : (spec_l05Blocks.l0 k a1 a2 l0_0 l0_1 l0_2) = some r := h
 clear h
 have H' := Aside0.mk H
 clear H
 go_enter Try.func124, Try.ntmps124
 go_wp2_with (first | (refine Bv_ 3 #[.slice A0_0 l0_0.length c0_0, .slice A0_1 l0_1.length c0_1, .slice A0_2 l0_2.length c0_2] 40 ?_; intro gb273 hg w4 BK273 hb; have GW273 := Hg_ HB hg; replace HB := Hs_ HB hb; clear hb hg))
 go_loopg [7] k (fun kq v7 w' => ∃ (x7_1 : Int), v7 = .int .i64 x7_1 ∧ Aside0 (spec_l05Blocks.l0 kq a1 x7_1 l0_0 l0_1 l0_2 = some r) ∧ Aside0 (kq ≤ k) ∧ Aside0 (w'.heap[gb273]? = some (.cells #[(.slice A0_0 l0_0.length c0_0), (.slice A0_1 l0_1.length c0_1), (.slice A0_2 l0_2.length c0_2)] 40 (0, 0))) ∧ Aside0 (Below w.heap.size w w'))
 case atStart => exact ⟨(a2), Rr_, H', ⟨Nat.le_refl _⟩, ⟨Bq_ BK273⟩, ⟨Hf_ HB⟩⟩
 case round =>
  clear H'
  obtain ⟨x7_1, rfl, HA, HK1, BK273, HB⟩ := hrel
  cases gk with
  | zero => exact absurd HA.out (by simp [spec_l05Blocks.l0])
  | succ k1 =>
   have H := HA.out
   clear HA
   simp only [spec_l05Blocks.l0] at H
   by_cases c5 : 0 ≤ a1
   ·rw [if_pos c5] at H
    have c5b0 := decide_eq_true c5
    clear c5
    by_cases c6 : a1 < (l0_0.length : Int)
    ·rw [if_pos c6] at H
     have c6b0 := decide_eq_true c6
     clear c6
     by_cases c7 : x7_1 < (((rd_T77 l0_0 a1).f5).length : Int)
     ·rw [if_pos c7] at H
      have c7b0 := decide_eq_true c7
      clear c7
      obtain ⟨t275, A8, H⟩ := Bo_ H
      by_cases c9 : t275 = 20
      ·rw [if_pos c9] at H
       have c9b0 := beq_iff_eq.mpr c9
       have c9b1 := bne_eq_false_iff_eq.mpr c9
       clear c9
       have H' := Aside0.mk H
       clear H
       obtain ⟨hcz10_0, hcz10_1, hcz10_2, hfz10_0, hfz10_1, hfz10_2⟩ := Bc3_ BK273
       have p274 : 0 ≤ (a1 : Int) := of_decide_eq_true As_
       have q274 : a1 < (l0_0.length : Int) := of_decide_eq_true As_
       obtain ⟨ad274, A274_5, c274_5, e274, hx274_0, hx274_1, hx274_2, hx274_3, hx274_4, hx274_5, hl274_5, hi274_5⟩ := at_T77 HR0_0.out a1 p274 q274
       cases e274
       replace hx274_0 := Bw_ hx274_0 HB
       replace hx274_1 := Bw_ hx274_1 HB
       replace hx274_2 := Bw_ hx274_2 HB
       replace hx274_3 := Bw_ hx274_3 HB
       replace hx274_4 := Bw_ hx274_4 HB
       replace hx274_5 := Bw_ hx274_5 HB
       have HR274_5 := Aside0.mk hi274_5
       have HC274_5 := Aside0.mk hl274_5
       clear hi274_5 hl274_5
       replace p274 := eq_true p274
       replace q274 := eq_true q274
       go_wp2_with (first | (refine Gl_ (some 23) Try.func125 ((spec_l05Kid.calls _ _ l0_0 _ _ l0_1 _ _ l0_2 a1 x7_1 t275 _ (Sc_ HR0_0 HB) HC0_0.out (Sc_ HR0_1 HB) HC0_1.out (Sc_ HR0_2 HB) HC0_2.out A8.out).mono ?_); rintro e w11 ⟨rfl, hb⟩; refine ⟨_, rfl, ?_⟩; replace BK273 := Bb_ BK273 hb; replace HB := Hs_ HB hb; clear hb))
       go_roundg k1
       case measure => have := HK1.out; omega
       case rel => exact ⟨(wrap64 (x7_1 + 1)), Rr_, H', ⟨by have := HK1.out; omega⟩, ⟨Bq_ BK273⟩, ⟨Hf_ HB⟩⟩
      ·rw [if_neg c9] at H
       have c9b0 := beq_eq_false_iff_ne.mpr c9
       have c9b1 := bne_iff_ne.mpr c9
       obtain rfl := Option.some.inj H
       obtain ⟨hcz12_0, hcz12_1, hcz12_2, hfz12_0, hfz12_1, hfz12_2⟩ := Bc3_ BK273
       have p274 : 0 ≤ (a1 : Int) := of_decide_eq_true As_
       have q274 : a1 < (l0_0.length : Int) := of_decide_eq_true As_
       obtain ⟨ad274, A274_5, c274_5, e274, hx274_0, hx274_1, hx274_2, hx274_3, hx274_4, hx274_5, hl274_5, hi274_5⟩ := at_T77 HR0_0.out a1 p274 q274
       cases e274
       replace hx274_0 := Bw_ hx274_0 HB
       replace hx274_1 := Bw_ hx274_1 HB
       replace hx274_2 := Bw_ hx274_2 HB
       replace hx274_3 := Bw_ hx274_3 HB
       replace hx274_4 := Bw_ hx274_4 HB
       replace hx274_5 := Bw_ hx274_5 HB
       have HR274_5 := Aside0.mk hi274_5
       have HC274_5 := Aside0.mk hl274_5
       clear hi274_5 hl274_5
       replace p274 := eq_true p274
       replace q274 := eq_true q274
       go_wp2_with (first | (refine Gl_ (some 23) Try.func125 ((spec_l05Kid.calls _ _ l0_0 _ _ l0_1 _ _ l0_2 a1 x7_1 t275 _ (Sc_ HR0_0 HB) HC0_0.out (Sc_ HR0_1 HB) HC0_1.out (Sc_ HR0_2 HB) HC0_2.out A8.out).mono ?_); rintro e w13 ⟨rfl, hb⟩; refine ⟨_, rfl, ?_⟩; replace BK273 := Bb_ BK273 hb; replace HB := Hs_ HB hb; clear hb))
       go_ret
       exact ⟨Re_, Hf_ HB⟩
     ·rw [if_neg c7] at H
      have c7b0 := decide_eq_false c7
      clear c7
      obtain rfl := Option.some.inj H
      obtain ⟨hcz14_0, hcz14_1, hcz14_2, hfz14_0, hfz14_1, hfz14_2⟩ := Bc3_ BK273
      have p274 : 0 ≤ (a1 : Int) := of_decide_eq_true As_
      have q274 : a1 < (l0_0.length : Int) := of_decide_eq_true As_
      obtain ⟨ad274, A274_5, c274_5, e274, hx274_0, hx274_1, hx274_2, hx274_3, hx274_4, hx274_5, hl274_5, hi274_5⟩ := at_T77 HR0_0.out a1 p274 q274
      cases e274
      replace hx274_0 := Bw_ hx274_0 HB
      replace hx274_1 := Bw_ hx274_1 HB
      replace hx274_2 := Bw_ hx274_2 HB
      replace hx274_3 := Bw_ hx274_3 HB
      replace hx274_4 := Bw_ hx274_4 HB
      replace hx274_5 := Bw_ hx274_5 HB
      have HR274_5 := Aside0.mk hi274_5
      have HC274_5 := Aside0.mk hl274_5
      clear hi274_5 hl274_5
      replace p274 := eq_true p274
      replace q274 := eq_true q274
      go_wp2
      go_ret
      exact ⟨Re_, Hf_ HB⟩
    ·rw [if_neg c6] at H
     exact absurd H (by simp)
   ·rw [if_neg c5] at H
    exact absurd H (by simp)

end Go.Proofs.Ytmbkcbgbienjoaa.PFnExactValueOf
