/- The machine side of the law FnExactMonitorAt: for each function that it reaches, a Lean function and its contract. Written by a program of this session's over the kit's print. No condition. -/
import Derived.Test.YtegeahiflkjhmaaCmq
import Derived.Test.YtegeahiflkjhmaaPFnExactMonitorAtx0
import Derived.Test.YtegeahiflkjhmaaPFnExactMonitorAtx3
namespace Go.Proofs.Ytegeahiflkjhmaa.PFnExactMonitorAt
open Go.RowKit Go.Proofs.YtegeahiflkjhmaaW.PrintWords Go.Proofs.YtegeahiflkjhmaaW.PrintLast Go.Proofs.YtegeahiflkjhmaaW.PrintMore Go.Proofs.Ytegeahiflkjhmaa.Cmp
attribute [local go_sem] max2_int min2_int max_two min_two max_three min_three max_four min_four   -- for this text's walks alone
set_option linter.unusedVariables false
set_option maxHeartbeats 8000000
set_option maxRecDepth 100000
set_option linter.unusedSimpArgs false

/-! ### laws_eqNode: function 132 -/
def laws_eqNode.f (k : Nat) (a0_0 : Int) (a0_1 : Int) (a0_2 : ByteArray) (a0_3 : ByteArray) (a0_4 : ByteArray) (l0_5 : List Int) (a1_0 : Int) (a1_1 : Int) (a1_2 : ByteArray) (a1_3 : ByteArray) (a1_4 : ByteArray) (l1_5 : List Int) : Option (Bool) := if a0_0 = a1_0 then (if a0_1 = a1_1 then (if a0_2.toList = a1_2.toList then (if a0_3.toList = a1_3.toList then (if a0_4.toList = a1_4.toList then ((laws_eqIntS.f k l0_5 l1_5).bind fun t232 => (if t232 = true then (some true) else (some false))) else (some false)) else (some false)) else (some false)) else (some false)) else (some false)
theorem laws_eqNode.calls (k : Nat) (a0_0 : Int) (a0_1 : Int) (a0_2 : ByteArray) (a0_3 : ByteArray) (a0_4 : ByteArray) (A0_5 : Option Addr) (c0_5 : Nat) (l0_5 : List Int) (a1_0 : Int) (a1_1 : Int) (a1_2 : ByteArray) (a1_3 : ByteArray) (a1_4 : ByteArray) (A1_5 : Option Addr) (c1_5 : Nat) (l1_5 : List Int) (r : Bool) (w : World) (hr0_5 : Kd.C (Kd.int .i64) w A0_5 l0_5.length l0_5) (hc0_5 : l0_5.length ≤ c0_5) (hr1_5 : Kd.C (Kd.int .i64) w A1_5 l1_5.length l1_5) (hc1_5 : l1_5.length ≤ c1_5) (h : laws_eqNode.f k a0_0 a0_1 a0_2 a0_3 a0_4 l0_5 a1_0 a1_1 a1_2 a1_3 a1_4 l1_5 = some r) :
  Calls Try.prog 132 #[.agg #[.int .i64 a0_0, .int .i64 a0_1, .string a0_2, .string a0_3, .string a0_4, .slice A0_5 l0_5.length c0_5], .agg #[.int .i64 a1_0, .int .i64 a1_1, .string a1_2, .string a1_3, .string a1_4, .slice A1_5 l1_5.length c1_5]] w fun e w' => e = .returned (.bool r) ∧ Below w.heap.size w w' := by
 have hu132 := Try.underlying132
 have HR0_5 := Aside0.mk hr0_5
 have HC0_5 := Aside0.mk hc0_5
 clear hr0_5 hc0_5
 have HR1_5 := Aside0.mk hr1_5
 have HC1_5 := Aside0.mk hc1_5
 clear hr1_5 hc1_5
 have HB := Aside0.mk (Below.refl w.heap.size w)
 have H : (if a0_0 = a1_0 then (if a0_1 = a1_1 then (if a0_2.toList = a1_2.toList then (if a0_3.toList = a1_3.toList then (if a0_4.toList = a1_4.toList then ((laws_eqIntS.f k l0_5 l1_5).bind fun t232 => (if t232 = true then (some true) else (some false))) else (some false)) else (some false)) else (some false)) else (some false)) else (some false)) = some r := h
 clear h
 by_cases c3 : a0_0 = a1_0
 ·rw [if_pos c3] at H
  have c3b0 := beq_iff_eq.mpr c3
  have c3b1 := bne_eq_false_iff_eq.mpr c3
  clear c3
  by_cases c4 : a0_1 = a1_1
  ·rw [if_pos c4] at H
   have c4b0 := beq_iff_eq.mpr c4
   have c4b1 := bne_eq_false_iff_eq.mpr c4
   clear c4
   by_cases c5 : a0_2.toList = a1_2.toList
   ·rw [if_pos c5] at H
    have c5b0 := beq_iff_eq.mpr c5
    have c5b1 := bne_eq_false_iff_eq.mpr c5
    clear c5
    by_cases c6 : a0_3.toList = a1_3.toList
    ·rw [if_pos c6] at H
     have c6b0 := beq_iff_eq.mpr c6
     have c6b1 := bne_eq_false_iff_eq.mpr c6
     clear c6
     by_cases c7 : a0_4.toList = a1_4.toList
     ·rw [if_pos c7] at H
      have c7b0 := beq_iff_eq.mpr c7
      have c7b1 := bne_eq_false_iff_eq.mpr c7
      clear c7
      obtain ⟨t232, A8, H⟩ := Bo_ H
      by_cases c9 : t232 = true
      ·subst c9
       rw [if_pos rfl] at H
       obtain rfl := Option.some.inj H
       go_enter Try.func132, Try.ntmps132
       go_wp2_with (first | (refine Bv_ 2 #[.int .i64 a0_0, .int .i64 a0_1, .string a0_2, .string a0_3, .string a0_4, .slice A0_5 l0_5.length c0_5] 132 ?_; intro gb230 hg w10 BK230 hb; have GW230 := Hg_ HB hg; replace HB := Hs_ HB hb; clear hb hg) | (refine Bv_ 3 #[.int .i64 a1_0, .int .i64 a1_1, .string a1_2, .string a1_3, .string a1_4, .slice A1_5 l1_5.length c1_5] 132 ?_; intro gb231 hg w11 BK231 hb; have GW231 := Hg_ HB hg; have NB230_231 := Bl_ BK230 hg; have NB231_230 := Bm_ NB230_231; replace BK230 := Bb_ BK230 hb; replace HB := Hs_ HB hb; clear hb hg; have hnb12 := NB230_231.out; have hnc12 := NB231_230.out; obtain ⟨hcz13_0, hcz13_1, hcz13_2, hcz13_3, hcz13_4, hcz13_5, hfz13_0, hfz13_1, hfz13_2, hfz13_3, hfz13_4, hfz13_5⟩ := Bc6_ BK230; obtain ⟨hcz14_0, hcz14_1, hcz14_2, hcz14_3, hcz14_4, hcz14_5, hfz14_0, hfz14_1, hfz14_2, hfz14_3, hfz14_4, hfz14_5⟩ := Bc6_ BK231) | (refine Gl_ (some 34) Try.func66 ((laws_eqIntS.calls k _ _ l0_5 _ _ l1_5 true _ (Sc_ HR0_5 HB) HC0_5.out (Sc_ HR1_5 HB) HC1_5.out A8.out).mono ?_); rintro e w' ⟨rfl, ⟨nd, rfl⟩⟩; refine ⟨_, rfl, ?_⟩))
       go_ret
       exact ⟨Re_, Hf_ HB⟩
      ·replace c9 := Bool.eq_false_iff.mpr c9
       subst c9
       rw [if_neg Ff_] at H
       obtain rfl := Option.some.inj H
       go_enter Try.func132, Try.ntmps132
       go_wp2_with (first | (refine Bv_ 2 #[.int .i64 a0_0, .int .i64 a0_1, .string a0_2, .string a0_3, .string a0_4, .slice A0_5 l0_5.length c0_5] 132 ?_; intro gb230 hg w15 BK230 hb; have GW230 := Hg_ HB hg; replace HB := Hs_ HB hb; clear hb hg) | (refine Bv_ 3 #[.int .i64 a1_0, .int .i64 a1_1, .string a1_2, .string a1_3, .string a1_4, .slice A1_5 l1_5.length c1_5] 132 ?_; intro gb231 hg w16 BK231 hb; have GW231 := Hg_ HB hg; have NB230_231 := Bl_ BK230 hg; have NB231_230 := Bm_ NB230_231; replace BK230 := Bb_ BK230 hb; replace HB := Hs_ HB hb; clear hb hg; have hnb17 := NB230_231.out; have hnc17 := NB231_230.out; obtain ⟨hcz18_0, hcz18_1, hcz18_2, hcz18_3, hcz18_4, hcz18_5, hfz18_0, hfz18_1, hfz18_2, hfz18_3, hfz18_4, hfz18_5⟩ := Bc6_ BK230; obtain ⟨hcz19_0, hcz19_1, hcz19_2, hcz19_3, hcz19_4, hcz19_5, hfz19_0, hfz19_1, hfz19_2, hfz19_3, hfz19_4, hfz19_5⟩ := Bc6_ BK231) | (refine Gl_ (some 34) Try.func66 ((laws_eqIntS.calls k _ _ l0_5 _ _ l1_5 false _ (Sc_ HR0_5 HB) HC0_5.out (Sc_ HR1_5 HB) HC1_5.out A8.out).mono ?_); rintro e w' ⟨rfl, ⟨nd, rfl⟩⟩; refine ⟨_, rfl, ?_⟩))
       go_ret
       exact ⟨Re_, Hf_ HB⟩
     ·rw [if_neg c7] at H
      have c7b0 := beq_eq_false_iff_ne.mpr c7
      have c7b1 := bne_iff_ne.mpr c7
      obtain rfl := Option.some.inj H
      go_enter Try.func132, Try.ntmps132
      go_wp2_with (first | (refine Bv_ 2 #[.int .i64 a0_0, .int .i64 a0_1, .string a0_2, .string a0_3, .string a0_4, .slice A0_5 l0_5.length c0_5] 132 ?_; intro gb230 hg w20 BK230 hb; have GW230 := Hg_ HB hg; replace HB := Hs_ HB hb; clear hb hg) | (refine Bv_ 3 #[.int .i64 a1_0, .int .i64 a1_1, .string a1_2, .string a1_3, .string a1_4, .slice A1_5 l1_5.length c1_5] 132 ?_; intro gb231 hg w21 BK231 hb; have GW231 := Hg_ HB hg; have NB230_231 := Bl_ BK230 hg; have NB231_230 := Bm_ NB230_231; replace BK230 := Bb_ BK230 hb; replace HB := Hs_ HB hb; clear hb hg; have hnb22 := NB230_231.out; have hnc22 := NB231_230.out; obtain ⟨hcz23_0, hcz23_1, hcz23_2, hcz23_3, hcz23_4, hcz23_5, hfz23_0, hfz23_1, hfz23_2, hfz23_3, hfz23_4, hfz23_5⟩ := Bc6_ BK230; obtain ⟨hcz24_0, hcz24_1, hcz24_2, hcz24_3, hcz24_4, hcz24_5, hfz24_0, hfz24_1, hfz24_2, hfz24_3, hfz24_4, hfz24_5⟩ := Bc6_ BK231))
      go_ret
      exact ⟨Re_, Hf_ HB⟩
    ·rw [if_neg c6] at H
     have c6b0 := beq_eq_false_iff_ne.mpr c6
     have c6b1 := bne_iff_ne.mpr c6
     obtain rfl := Option.some.inj H
     go_enter Try.func132, Try.ntmps132
     go_wp2_with (first | (refine Bv_ 2 #[.int .i64 a0_0, .int .i64 a0_1, .string a0_2, .string a0_3, .string a0_4, .slice A0_5 l0_5.length c0_5] 132 ?_; intro gb230 hg w25 BK230 hb; have GW230 := Hg_ HB hg; replace HB := Hs_ HB hb; clear hb hg) | (refine Bv_ 3 #[.int .i64 a1_0, .int .i64 a1_1, .string a1_2, .string a1_3, .string a1_4, .slice A1_5 l1_5.length c1_5] 132 ?_; intro gb231 hg w26 BK231 hb; have GW231 := Hg_ HB hg; have NB230_231 := Bl_ BK230 hg; have NB231_230 := Bm_ NB230_231; replace BK230 := Bb_ BK230 hb; replace HB := Hs_ HB hb; clear hb hg; have hnb27 := NB230_231.out; have hnc27 := NB231_230.out; obtain ⟨hcz28_0, hcz28_1, hcz28_2, hcz28_3, hcz28_4, hcz28_5, hfz28_0, hfz28_1, hfz28_2, hfz28_3, hfz28_4, hfz28_5⟩ := Bc6_ BK230; obtain ⟨hcz29_0, hcz29_1, hcz29_2, hcz29_3, hcz29_4, hcz29_5, hfz29_0, hfz29_1, hfz29_2, hfz29_3, hfz29_4, hfz29_5⟩ := Bc6_ BK231))
     go_ret
     exact ⟨Re_, Hf_ HB⟩
   ·rw [if_neg c5] at H
    have c5b0 := beq_eq_false_iff_ne.mpr c5
    have c5b1 := bne_iff_ne.mpr c5
    obtain rfl := Option.some.inj H
    go_enter Try.func132, Try.ntmps132
    go_wp2_with (first | (refine Bv_ 2 #[.int .i64 a0_0, .int .i64 a0_1, .string a0_2, .string a0_3, .string a0_4, .slice A0_5 l0_5.length c0_5] 132 ?_; intro gb230 hg w30 BK230 hb; have GW230 := Hg_ HB hg; replace HB := Hs_ HB hb; clear hb hg) | (refine Bv_ 3 #[.int .i64 a1_0, .int .i64 a1_1, .string a1_2, .string a1_3, .string a1_4, .slice A1_5 l1_5.length c1_5] 132 ?_; intro gb231 hg w31 BK231 hb; have GW231 := Hg_ HB hg; have NB230_231 := Bl_ BK230 hg; have NB231_230 := Bm_ NB230_231; replace BK230 := Bb_ BK230 hb; replace HB := Hs_ HB hb; clear hb hg; have hnb32 := NB230_231.out; have hnc32 := NB231_230.out; obtain ⟨hcz33_0, hcz33_1, hcz33_2, hcz33_3, hcz33_4, hcz33_5, hfz33_0, hfz33_1, hfz33_2, hfz33_3, hfz33_4, hfz33_5⟩ := Bc6_ BK230; obtain ⟨hcz34_0, hcz34_1, hcz34_2, hcz34_3, hcz34_4, hcz34_5, hfz34_0, hfz34_1, hfz34_2, hfz34_3, hfz34_4, hfz34_5⟩ := Bc6_ BK231))
    go_ret
    exact ⟨Re_, Hf_ HB⟩
  ·rw [if_neg c4] at H
   have c4b0 := beq_eq_false_iff_ne.mpr c4
   have c4b1 := bne_iff_ne.mpr c4
   obtain rfl := Option.some.inj H
   go_enter Try.func132, Try.ntmps132
   go_wp2_with (first | (refine Bv_ 2 #[.int .i64 a0_0, .int .i64 a0_1, .string a0_2, .string a0_3, .string a0_4, .slice A0_5 l0_5.length c0_5] 132 ?_; intro gb230 hg w35 BK230 hb; have GW230 := Hg_ HB hg; replace HB := Hs_ HB hb; clear hb hg) | (refine Bv_ 3 #[.int .i64 a1_0, .int .i64 a1_1, .string a1_2, .string a1_3, .string a1_4, .slice A1_5 l1_5.length c1_5] 132 ?_; intro gb231 hg w36 BK231 hb; have GW231 := Hg_ HB hg; have NB230_231 := Bl_ BK230 hg; have NB231_230 := Bm_ NB230_231; replace BK230 := Bb_ BK230 hb; replace HB := Hs_ HB hb; clear hb hg; have hnb37 := NB230_231.out; have hnc37 := NB231_230.out; obtain ⟨hcz38_0, hcz38_1, hcz38_2, hcz38_3, hcz38_4, hcz38_5, hfz38_0, hfz38_1, hfz38_2, hfz38_3, hfz38_4, hfz38_5⟩ := Bc6_ BK230; obtain ⟨hcz39_0, hcz39_1, hcz39_2, hcz39_3, hcz39_4, hcz39_5, hfz39_0, hfz39_1, hfz39_2, hfz39_3, hfz39_4, hfz39_5⟩ := Bc6_ BK231))
   go_ret
   exact ⟨Re_, Hf_ HB⟩
 ·rw [if_neg c3] at H
  have c3b0 := beq_eq_false_iff_ne.mpr c3
  have c3b1 := bne_iff_ne.mpr c3
  obtain rfl := Option.some.inj H
  go_enter Try.func132, Try.ntmps132
  go_wp2_with (first | (refine Bv_ 2 #[.int .i64 a0_0, .int .i64 a0_1, .string a0_2, .string a0_3, .string a0_4, .slice A0_5 l0_5.length c0_5] 132 ?_; intro gb230 hg w40 BK230 hb; have GW230 := Hg_ HB hg; replace HB := Hs_ HB hb; clear hb hg) | (refine Bv_ 3 #[.int .i64 a1_0, .int .i64 a1_1, .string a1_2, .string a1_3, .string a1_4, .slice A1_5 l1_5.length c1_5] 132 ?_; intro gb231 hg w41 BK231 hb; have GW231 := Hg_ HB hg; have NB230_231 := Bl_ BK230 hg; have NB231_230 := Bm_ NB230_231; replace BK230 := Bb_ BK230 hb; replace HB := Hs_ HB hb; clear hb hg; have hnb42 := NB230_231.out; have hnc42 := NB231_230.out; obtain ⟨hcz43_0, hcz43_1, hcz43_2, hcz43_3, hcz43_4, hcz43_5, hfz43_0, hfz43_1, hfz43_2, hfz43_3, hfz43_4, hfz43_5⟩ := Bc6_ BK230; obtain ⟨hcz44_0, hcz44_1, hcz44_2, hcz44_3, hcz44_4, hcz44_5, hfz44_0, hfz44_1, hfz44_2, hfz44_3, hfz44_4, hfz44_5⟩ := Bc6_ BK231))
  go_ret
  exact ⟨Re_, Hf_ HB⟩

/-! ### laws_eqNodeS: function 99 -/
def laws_eqNodeS.l0 : Nat → List (S132) → List (S132) → Int → Option (Bool)
 | 0, _, _, _ => none
 | k + 1, x0, x1, x5 => if x5 < (x0.length : Int) then (if 0 ≤ x5 then (if x5 < (x1.length : Int) then ((laws_eqNode.f k ((rd_T132 x0 x5).f0) ((rd_T132 x0 x5).f1) ((rd_T132 x0 x5).f2) ((rd_T132 x0 x5).f3) ((rd_T132 x0 x5).f4) ((rd_T132 x0 x5).f5) ((rd_T132 x1 x5).f0) ((rd_T132 x1 x5).f1) ((rd_T132 x1 x5).f2) ((rd_T132 x1 x5).f3) ((rd_T132 x1 x5).f4) ((rd_T132 x1 x5).f5)).bind fun t235 => (if t235 = true then (laws_eqNodeS.l0 k x0 x1 (wrap64 (x5 + 1))) else (some false))) else (none)) else (none)) else (some true)
def laws_eqNodeS.f (k : Nat) (l0 : List (S132)) (l1 : List (S132)) : Option (Bool) := if (l0.length : Int) = (l1.length : Int) then (laws_eqNodeS.l0 k l0 l1 0) else (some false)
def laws_eqNodeS.T6 : Bool × List (List Nat × List Nat) := (true, [([], []), ([], []), ([0, 1], [0, 1]), ([2], [2]), ([], []), ([], []), ([4, 5], [4, 5]), ([6], [6]), ([3, 7], [3, 7]), ([8], [8])])
def laws_eqNodeS.B6 : List Nat := [0, 0, 3, 7, 0, 0, 48, 112, 255, 511]
theorem laws_eqNodeS.tab6 : rtab .any (opsOf Try.f99 6) = laws_eqNodeS.T6 := by kernel_rfl
theorem laws_eqNodeS.bits6 : waitsOk laws_eqNodeS.T6.2 laws_eqNodeS.B6 = true := by kernel_rfl
theorem laws_eqNodeS.calls (k : Nat) (A0 : Option Addr) (c0 : Nat) (l0 : List (S132)) (A1 : Option Addr) (c1 : Nat) (l1 : List (S132)) (r : Bool) (w : World) (hr0 : Kd.C k132 w A0 l0.length l0) (hc0 : l0.length ≤ c0) (hr1 : Kd.C k132 w A1 l1.length l1) (hc1 : l1.length ≤ c1) (h : laws_eqNodeS.f k l0 l1 = some r) :
  Calls Try.prog 99 #[.slice A0 l0.length c0, .slice A1 l1.length c1] w fun e w' => e = .returned (.bool r) ∧ Below w.heap.size w w' := by
 have hu132 := Try.underlying132
 have HR0 := Aside0.mk hr0
 have HC0 := Aside0.mk hc0
 clear hr0 hc0
 have HR1 := Aside0.mk hr1
 have HC1 := Aside0.mk hc1
 clear hr1 hc1
 have HB := Aside0.mk (Below.refl w.heap.size w)
 have H : (if (l0.length : Int) = (l1.length : Int) then (laws_eqNodeS.l0 k l0 l1 0) else (some false)) = some r := h
 clear h
 by_cases c3 : (l0.length : Int) = (l1.length : Int)
 ·rw [if_pos c3] at H
  have c3b0 := beq_iff_eq.mpr c3
  have c3b1 := bne_eq_false_iff_eq.mpr c3
  have c3b2 : (l0.length == l1.length) = true := by first | simpa using c3 | (simp at c3 ⊢; omega)
  clear c3
  have H' := Aside0.mk H
  clear H
  go_enter Try.func99, Try.ntmps99
  go_wp2
  go_loopg [5] k (fun kq v5 w' => ∃ (x5_1 : Int), v5 = .int .i64 x5_1 ∧ Aside0 (laws_eqNodeS.l0 kq l0 l1 x5_1 = some r) ∧ Aside0 (kq ≤ k) ∧ Aside0 (Below w.heap.size w w'))
  case atStart => exact ⟨(0), Rr_, H', ⟨Nat.le_refl _⟩, ⟨Hf_ HB⟩⟩
  case round =>
   clear H'
   try clear c1
   try clear p2
   try clear c3
   try clear c3b0
   try clear c3b1
   try clear c3b2
   obtain ⟨x5_1, rfl, HA, HK1, HB⟩ := hrel
   cases gk with
   | zero => exact absurd HA.out (by simp [laws_eqNodeS.l0])
   | succ k1 =>
    have H := HA.out
    clear HA
    simp only [laws_eqNodeS.l0] at H
    by_cases c4 : x5_1 < (l0.length : Int)
    ·rw [if_pos c4] at H
     have c4b0 := decide_eq_true c4
     clear c4
     by_cases c5 : 0 ≤ x5_1
     ·rw [if_pos c5] at H
      have c5b0 := decide_eq_true c5
      clear c5
      by_cases c6 : x5_1 < (l1.length : Int)
      ·rw [if_pos c6] at H
       have c6b0 := decide_eq_true c6
       clear c6
       obtain ⟨t235, A7, H⟩ := Bo_ H
       by_cases c8 : t235 = true
       ·subst c8
        rw [if_pos rfl] at H
        have H' := Aside0.mk H
        clear H
        try go_wp2
        replace HB := Aside0.mk (below_drew1 HB.out)
        have p233 : 0 ≤ (x5_1 : Int) := of_decide_eq_true As_
        have q233 : x5_1 < (l0.length : Int) := of_decide_eq_true As_
        obtain ⟨ad233, A233_5, c233_5, e233, hx233_0, hx233_1, hx233_2, hx233_3, hx233_4, hx233_5, hl233_5, hi233_5⟩ := at_T132 HR0.out x5_1 p233 q233
        have hw233_5 := hx233_5
        have hw233_4 := hx233_4
        have hw233_3 := hx233_3
        have hw233_2 := hx233_2
        have hw233_1 := hx233_1
        have hw233_0 := hx233_0
        cases e233
        replace hx233_0 := Bw_ hx233_0 HB
        replace hx233_1 := Bw_ hx233_1 HB
        replace hx233_2 := Bw_ hx233_2 HB
        replace hx233_3 := Bw_ hx233_3 HB
        replace hx233_4 := Bw_ hx233_4 HB
        replace hx233_5 := Bw_ hx233_5 HB
        have HR233_5 := Aside0.mk hi233_5
        have HC233_5 := Aside0.mk hl233_5
        clear hi233_5 hl233_5
        replace p233 := eq_true p233
        replace q233 := eq_true q233
        have p234 : 0 ≤ (x5_1 : Int) := of_decide_eq_true As_
        have q234 : x5_1 < (l1.length : Int) := of_decide_eq_true As_
        obtain ⟨ad234, A234_5, c234_5, e234, hx234_0, hx234_1, hx234_2, hx234_3, hx234_4, hx234_5, hl234_5, hi234_5⟩ := at_T132 HR1.out x5_1 p234 q234
        have hw234_5 := hx234_5
        have hw234_4 := hx234_4
        have hw234_3 := hx234_3
        have hw234_2 := hx234_2
        have hw234_1 := hx234_1
        have hw234_0 := hx234_0
        cases e234
        replace hx234_0 := Bw_ hx234_0 HB
        replace hx234_1 := Bw_ hx234_1 HB
        replace hx234_2 := Bw_ hx234_2 HB
        replace hx234_3 := Bw_ hx234_3 HB
        replace hx234_4 := Bw_ hx234_4 HB
        replace hx234_5 := Bw_ hx234_5 HB
        have HR234_5 := Aside0.mk hi234_5
        have HC234_5 := Aside0.mk hl234_5
        clear hi234_5 hl234_5
        replace p234 := eq_true p234
        replace q234 := eq_true q234
        refine start_ (n := 10) (S := fun w' => w'.cell? (ad233.add ((x5_1).toNat * 6)) = some (.int .i64 ((rd_T132 l0 x5_1).f0)) ∧ w'.cell? ⟨(ad233.add ((x5_1).toNat * 6)).block, (ad233.add ((x5_1).toNat * 6)).off + 1, none⟩ = some (.int .i64 ((rd_T132 l0 x5_1).f1)) ∧ w'.cell? ⟨(ad233.add ((x5_1).toNat * 6)).block, (ad233.add ((x5_1).toNat * 6)).off + 2, none⟩ = some (.string ((rd_T132 l0 x5_1).f2)) ∧ w'.cell? ⟨(ad233.add ((x5_1).toNat * 6)).block, (ad233.add ((x5_1).toNat * 6)).off + 3, none⟩ = some (.string ((rd_T132 l0 x5_1).f3)) ∧ w'.cell? ⟨(ad233.add ((x5_1).toNat * 6)).block, (ad233.add ((x5_1).toNat * 6)).off + 4, none⟩ = some (.string ((rd_T132 l0 x5_1).f4)) ∧ w'.cell? ⟨(ad233.add ((x5_1).toNat * 6)).block, (ad233.add ((x5_1).toNat * 6)).off + 5, none⟩ = some (.slice A233_5 ((rd_T132 l0 x5_1).f5).length c233_5) ∧ w'.cell? (ad234.add ((x5_1).toNat * 6)) = some (.int .i64 ((rd_T132 l1 x5_1).f0)) ∧ w'.cell? ⟨(ad234.add ((x5_1).toNat * 6)).block, (ad234.add ((x5_1).toNat * 6)).off + 1, none⟩ = some (.int .i64 ((rd_T132 l1 x5_1).f1)) ∧ w'.cell? ⟨(ad234.add ((x5_1).toNat * 6)).block, (ad234.add ((x5_1).toNat * 6)).off + 2, none⟩ = some (.string ((rd_T132 l1 x5_1).f2)) ∧ w'.cell? ⟨(ad234.add ((x5_1).toNat * 6)).block, (ad234.add ((x5_1).toNat * 6)).off + 3, none⟩ = some (.string ((rd_T132 l1 x5_1).f3)) ∧ w'.cell? ⟨(ad234.add ((x5_1).toNat * 6)).block, (ad234.add ((x5_1).toNat * 6)).off + 4, none⟩ = some (.string ((rd_T132 l1 x5_1).f4)) ∧ w'.cell? ⟨(ad234.add ((x5_1).toNat * 6)).block, (ad234.add ((x5_1).toNat * 6)).off + 5, none⟩ = some (.slice A234_5 ((rd_T132 l1 x5_1).f5).length c234_5)) (ds := []) #[false, false, false, false, false, false, false, false, false, false] (by kernel_rfl) rfl rfl ⟨(Bw_ hw233_0 HB), (Bw_ hw233_1 HB), (Bw_ hw233_2 HB), (Bw_ hw233_3 HB), (Bw_ hw233_4 HB), (Bw_ hw233_5 HB), (Bw_ hw234_0 HB), (Bw_ hw234_1 HB), (Bw_ hw234_2 HB), (Bw_ hw234_3 HB), (Bw_ hw234_4 HB), (Bw_ hw234_5 HB)⟩ (fun hHeld => ?_); refine with_tabW laws_eqNodeS.tab6 laws_eqNodeS.bits6 (fun HT_ HW_ => ?_)
        generalize wr.drew = w9 at HB HR233_5 HR234_5 hx233_0 hx233_1 hx233_2 hx233_3 hx233_4 hx233_5 hx234_0 hx234_1 hx234_2 hx234_3 hx234_4 hx234_5 hHeld ⊢
        refine Pu_ 0 (some 17) HT_ ?_
        refine Pu_ 1 (some 18) HT_ ?_
        refine Pu_ 2 (some 19) HT_ ?_
        refine Pu_ 4 (some 21) HT_ ?_
        refine Pu_ 5 (some 22) HT_ ?_
        refine Pu_ 6 (some 23) HT_ ?_
        refine Tk_ 3 (some 20) HT_ HW_ hHeld ?_
        refine Tk_ 7 (some 24) HT_ HW_ hHeld ?_
        refine On_ 8 (some 25) HT_ (fun K hK => ?_)
        refine Gs_ Try.func132 ((laws_eqNode.calls k1 ((rd_T132 l0 x5_1).f0) ((rd_T132 l0 x5_1).f1) ((rd_T132 l0 x5_1).f2) ((rd_T132 l0 x5_1).f3) ((rd_T132 l0 x5_1).f4) _ _ ((rd_T132 l0 x5_1).f5) ((rd_T132 l1 x5_1).f0) ((rd_T132 l1 x5_1).f1) ((rd_T132 l1 x5_1).f2) ((rd_T132 l1 x5_1).f3) ((rd_T132 l1 x5_1).f4) _ _ ((rd_T132 l1 x5_1).f5) true _ (Sc_ HR233_5 HB) HC233_5.out (Sc_ HR234_5 HB) HC234_5.out A7.out).mono ?_)
        rintro e w10 ⟨rfl, hb⟩
        refine ⟨_, rfl, ?_⟩
        replace HB := Hs_ HB hb
        clear hb
        refine hK.out _ _ ⟨(Bw_ hw233_0 HB), (Bw_ hw233_1 HB), (Bw_ hw233_2 HB), (Bw_ hw233_3 HB), (Bw_ hw233_4 HB), (Bw_ hw233_5 HB), (Bw_ hw234_0 HB), (Bw_ hw234_1 HB), (Bw_ hw234_2 HB), (Bw_ hw234_3 HB), (Bw_ hw234_4 HB), (Bw_ hw234_5 HB)⟩ (fun hHeld => ?_)
        clear hK K
        refine No_ (some 25) ?_
        refine Pu_ 9 (some 26) HT_ ?_
        refine done_ (done_of HT_.out (by kernel_rfl)) ?_
        try go_wp2
        go_roundg k1
        case measure => have := HK1.out; omega
        case rel => exact ⟨(wrap64 (x5_1 + 1)), Rr_, H', ⟨by have := HK1.out; omega⟩, ⟨Hf_ HB⟩⟩
       ·replace c8 := Bool.eq_false_iff.mpr c8
        subst c8
        rw [if_neg Ff_] at H
        obtain rfl := Option.some.inj H
        try go_wp2
        replace HB := Aside0.mk (below_drew1 HB.out)
        have p233 : 0 ≤ (x5_1 : Int) := of_decide_eq_true As_
        have q233 : x5_1 < (l0.length : Int) := of_decide_eq_true As_
        obtain ⟨ad233, A233_5, c233_5, e233, hx233_0, hx233_1, hx233_2, hx233_3, hx233_4, hx233_5, hl233_5, hi233_5⟩ := at_T132 HR0.out x5_1 p233 q233
        have hw233_5 := hx233_5
        have hw233_4 := hx233_4
        have hw233_3 := hx233_3
        have hw233_2 := hx233_2
        have hw233_1 := hx233_1
        have hw233_0 := hx233_0
        cases e233
        replace hx233_0 := Bw_ hx233_0 HB
        replace hx233_1 := Bw_ hx233_1 HB
        replace hx233_2 := Bw_ hx233_2 HB
        replace hx233_3 := Bw_ hx233_3 HB
        replace hx233_4 := Bw_ hx233_4 HB
        replace hx233_5 := Bw_ hx233_5 HB
        have HR233_5 := Aside0.mk hi233_5
        have HC233_5 := Aside0.mk hl233_5
        clear hi233_5 hl233_5
        replace p233 := eq_true p233
        replace q233 := eq_true q233
        have p234 : 0 ≤ (x5_1 : Int) := of_decide_eq_true As_
        have q234 : x5_1 < (l1.length : Int) := of_decide_eq_true As_
        obtain ⟨ad234, A234_5, c234_5, e234, hx234_0, hx234_1, hx234_2, hx234_3, hx234_4, hx234_5, hl234_5, hi234_5⟩ := at_T132 HR1.out x5_1 p234 q234
        have hw234_5 := hx234_5
        have hw234_4 := hx234_4
        have hw234_3 := hx234_3
        have hw234_2 := hx234_2
        have hw234_1 := hx234_1
        have hw234_0 := hx234_0
        cases e234
        replace hx234_0 := Bw_ hx234_0 HB
        replace hx234_1 := Bw_ hx234_1 HB
        replace hx234_2 := Bw_ hx234_2 HB
        replace hx234_3 := Bw_ hx234_3 HB
        replace hx234_4 := Bw_ hx234_4 HB
        replace hx234_5 := Bw_ hx234_5 HB
        have HR234_5 := Aside0.mk hi234_5
        have HC234_5 := Aside0.mk hl234_5
        clear hi234_5 hl234_5
        replace p234 := eq_true p234
        replace q234 := eq_true q234
        refine start_ (n := 10) (S := fun w' => w'.cell? (ad233.add ((x5_1).toNat * 6)) = some (.int .i64 ((rd_T132 l0 x5_1).f0)) ∧ w'.cell? ⟨(ad233.add ((x5_1).toNat * 6)).block, (ad233.add ((x5_1).toNat * 6)).off + 1, none⟩ = some (.int .i64 ((rd_T132 l0 x5_1).f1)) ∧ w'.cell? ⟨(ad233.add ((x5_1).toNat * 6)).block, (ad233.add ((x5_1).toNat * 6)).off + 2, none⟩ = some (.string ((rd_T132 l0 x5_1).f2)) ∧ w'.cell? ⟨(ad233.add ((x5_1).toNat * 6)).block, (ad233.add ((x5_1).toNat * 6)).off + 3, none⟩ = some (.string ((rd_T132 l0 x5_1).f3)) ∧ w'.cell? ⟨(ad233.add ((x5_1).toNat * 6)).block, (ad233.add ((x5_1).toNat * 6)).off + 4, none⟩ = some (.string ((rd_T132 l0 x5_1).f4)) ∧ w'.cell? ⟨(ad233.add ((x5_1).toNat * 6)).block, (ad233.add ((x5_1).toNat * 6)).off + 5, none⟩ = some (.slice A233_5 ((rd_T132 l0 x5_1).f5).length c233_5) ∧ w'.cell? (ad234.add ((x5_1).toNat * 6)) = some (.int .i64 ((rd_T132 l1 x5_1).f0)) ∧ w'.cell? ⟨(ad234.add ((x5_1).toNat * 6)).block, (ad234.add ((x5_1).toNat * 6)).off + 1, none⟩ = some (.int .i64 ((rd_T132 l1 x5_1).f1)) ∧ w'.cell? ⟨(ad234.add ((x5_1).toNat * 6)).block, (ad234.add ((x5_1).toNat * 6)).off + 2, none⟩ = some (.string ((rd_T132 l1 x5_1).f2)) ∧ w'.cell? ⟨(ad234.add ((x5_1).toNat * 6)).block, (ad234.add ((x5_1).toNat * 6)).off + 3, none⟩ = some (.string ((rd_T132 l1 x5_1).f3)) ∧ w'.cell? ⟨(ad234.add ((x5_1).toNat * 6)).block, (ad234.add ((x5_1).toNat * 6)).off + 4, none⟩ = some (.string ((rd_T132 l1 x5_1).f4)) ∧ w'.cell? ⟨(ad234.add ((x5_1).toNat * 6)).block, (ad234.add ((x5_1).toNat * 6)).off + 5, none⟩ = some (.slice A234_5 ((rd_T132 l1 x5_1).f5).length c234_5)) (ds := []) #[false, false, false, false, false, false, false, false, false, false] (by kernel_rfl) rfl rfl ⟨(Bw_ hw233_0 HB), (Bw_ hw233_1 HB), (Bw_ hw233_2 HB), (Bw_ hw233_3 HB), (Bw_ hw233_4 HB), (Bw_ hw233_5 HB), (Bw_ hw234_0 HB), (Bw_ hw234_1 HB), (Bw_ hw234_2 HB), (Bw_ hw234_3 HB), (Bw_ hw234_4 HB), (Bw_ hw234_5 HB)⟩ (fun hHeld => ?_); refine with_tabW laws_eqNodeS.tab6 laws_eqNodeS.bits6 (fun HT_ HW_ => ?_)
        generalize wr.drew = w11 at HB HR233_5 HR234_5 hx233_0 hx233_1 hx233_2 hx233_3 hx233_4 hx233_5 hx234_0 hx234_1 hx234_2 hx234_3 hx234_4 hx234_5 hHeld ⊢
        refine Pu_ 0 (some 17) HT_ ?_
        refine Pu_ 1 (some 18) HT_ ?_
        refine Pu_ 2 (some 19) HT_ ?_
        refine Pu_ 4 (some 21) HT_ ?_
        refine Pu_ 5 (some 22) HT_ ?_
        refine Pu_ 6 (some 23) HT_ ?_
        refine Tk_ 3 (some 20) HT_ HW_ hHeld ?_
        refine Tk_ 7 (some 24) HT_ HW_ hHeld ?_
        refine On_ 8 (some 25) HT_ (fun K hK => ?_)
        refine Gs_ Try.func132 ((laws_eqNode.calls k1 ((rd_T132 l0 x5_1).f0) ((rd_T132 l0 x5_1).f1) ((rd_T132 l0 x5_1).f2) ((rd_T132 l0 x5_1).f3) ((rd_T132 l0 x5_1).f4) _ _ ((rd_T132 l0 x5_1).f5) ((rd_T132 l1 x5_1).f0) ((rd_T132 l1 x5_1).f1) ((rd_T132 l1 x5_1).f2) ((rd_T132 l1 x5_1).f3) ((rd_T132 l1 x5_1).f4) _ _ ((rd_T132 l1 x5_1).f5) false _ (Sc_ HR233_5 HB) HC233_5.out (Sc_ HR234_5 HB) HC234_5.out A7.out).mono ?_)
        rintro e w12 ⟨rfl, hb⟩
        refine ⟨_, rfl, ?_⟩
        replace HB := Hs_ HB hb
        clear hb
        refine hK.out _ _ ⟨(Bw_ hw233_0 HB), (Bw_ hw233_1 HB), (Bw_ hw233_2 HB), (Bw_ hw233_3 HB), (Bw_ hw233_4 HB), (Bw_ hw233_5 HB), (Bw_ hw234_0 HB), (Bw_ hw234_1 HB), (Bw_ hw234_2 HB), (Bw_ hw234_3 HB), (Bw_ hw234_4 HB), (Bw_ hw234_5 HB)⟩ (fun hHeld => ?_)
        clear hK K
        refine No_ (some 25) ?_
        refine Pu_ 9 (some 26) HT_ ?_
        refine done_ (done_of HT_.out (by kernel_rfl)) ?_
        try go_wp2
        go_ret
        exact ⟨Re_, Hf_ HB⟩
      ·rw [if_neg c6] at H
       exact absurd H (by simp)
     ·rw [if_neg c5] at H
      exact absurd H (by simp)
    ·rw [if_neg c4] at H
     have c4b0 := decide_eq_false c4
     clear c4
     obtain rfl := Option.some.inj H
     go_wp2
     go_ret
     exact ⟨Re_, Hf_ HB⟩
 ·rw [if_neg c3] at H
  have c3b0 := beq_eq_false_iff_ne.mpr c3
  have c3b1 := bne_iff_ne.mpr c3
  have c3b2 : (l0.length == l1.length) = false := by first | simpa using c3 | (simp at c3 ⊢; omega)
  obtain rfl := Option.some.inj H
  go_enter Try.func99, Try.ntmps99
  go_wp2
  go_ret
  exact ⟨Re_, Hf_ HB⟩

/-! ### laws_eqStringS: function 65 -/
def laws_eqStringS.l0 : Nat → List ByteArray → List ByteArray → Int → Option (Bool)
 | 0, _, _, _ => none
 | k + 1, x0, x1, x5 => if x5 < (x0.length : Int) then (if 0 ≤ x5 then (if x5 < (x1.length : Int) then (if (rdOf ByteArray.empty x0 x5).toList = (rdOf ByteArray.empty x1 x5).toList then (laws_eqStringS.l0 k x0 x1 (wrap64 (x5 + 1))) else (some false)) else (none)) else (none)) else (some true)
def laws_eqStringS.f (k : Nat) (l0 : List ByteArray) (l1 : List ByteArray) : Option (Bool) := if (l0.length : Int) = (l1.length : Int) then (laws_eqStringS.l0 k l0 l1 0) else (some false)
theorem laws_eqStringS.calls (k : Nat) (A0 : Option Addr) (c0 : Nat) (l0 : List ByteArray) (A1 : Option Addr) (c1 : Nat) (l1 : List ByteArray) (r : Bool) (w : World) (hr0 : Kd.C Kd.string w A0 l0.length l0) (hc0 : l0.length ≤ c0) (hr1 : Kd.C Kd.string w A1 l1.length l1) (hc1 : l1.length ≤ c1) (h : laws_eqStringS.f k l0 l1 = some r) :
  Calls Try.prog 65 #[.slice A0 l0.length c0, .slice A1 l1.length c1] w fun e w' => e = .returned (.bool r) ∧ Drawn0 w w' := by
 have HR0 := Aside0.mk hr0
 have HC0 := Aside0.mk hc0
 clear hr0 hc0
 have HR1 := Aside0.mk hr1
 have HC1 := Aside0.mk hc1
 clear hr1 hc1
 have H : (if (l0.length : Int) = (l1.length : Int) then (laws_eqStringS.l0 k l0 l1 0) else (some false)) = some r := h
 clear h
 by_cases c3 : (l0.length : Int) = (l1.length : Int)
 ·rw [if_pos c3] at H
  have c3b0 := beq_iff_eq.mpr c3
  have c3b1 := bne_eq_false_iff_eq.mpr c3
  have c3b2 : (l0.length == l1.length) = true := by first | simpa using c3 | (simp at c3 ⊢; omega)
  clear c3
  have H' := Aside0.mk H
  clear H
  go_enter Try.func65, Try.ntmps65
  go_wp2
  repeat (go_quiet (fail); try go_wp2)
  go_loopg [5] k (fun kq v5 w' => ∃ (x5_1 : Int), v5 = .int .i64 x5_1 ∧ Aside0 (laws_eqStringS.l0 kq l0 l1 x5_1 = some r) ∧ Aside0 (kq ≤ k) ∧ Drawn0 w w')
  case atStart => exact ⟨(0), Rr_, H', ⟨Nat.le_refl _⟩, by repeat (first | exact Drawn0.refl _ | apply Drawn0.step)⟩
  case round =>
   clear H'
   try clear c1
   try clear p2
   try clear c3
   try clear c3b0
   try clear c3b1
   try clear c3b2
   obtain ⟨x5_1, rfl, HA, HK1, ⟨m1, rfl⟩⟩ := hrel
   cases gk with
   | zero => exact absurd HA.out (by simp [laws_eqStringS.l0])
   | succ k1 =>
    have H := HA.out
    clear HA
    simp only [laws_eqStringS.l0] at H
    by_cases c4 : x5_1 < (l0.length : Int)
    ·rw [if_pos c4] at H
     have c4b0 := decide_eq_true c4
     clear c4
     by_cases c5 : 0 ≤ x5_1
     ·rw [if_pos c5] at H
      have c5b0 := decide_eq_true c5
      clear c5
      by_cases c6 : x5_1 < (l1.length : Int)
      ·rw [if_pos c6] at H
       have c6b0 := decide_eq_true c6
       clear c6
       by_cases c7 : (rdOf ByteArray.empty l0 x5_1).toList = (rdOf ByteArray.empty l1 x5_1).toList
       ·rw [if_pos c7] at H
        have c7b0 := beq_iff_eq.mpr c7
        have c7b1 := bne_eq_false_iff_eq.mpr c7
        clear c7
        have H' := Aside0.mk H
        clear H
        have p236 : 0 ≤ (x5_1 : Int) := of_decide_eq_true As_
        have q236 : x5_1 < (l0.length : Int) := of_decide_eq_true As_
        obtain ⟨ad236, e236, hx236_0⟩ := Kd.at_string HR0.out x5_1 p236 q236
        cases e236
        replace p236 := eq_true p236
        replace q236 := eq_true q236
        have p237 : 0 ≤ (x5_1 : Int) := of_decide_eq_true As_
        have q237 : x5_1 < (l1.length : Int) := of_decide_eq_true As_
        obtain ⟨ad237, e237, hx237_0⟩ := Kd.at_string HR1.out x5_1 p237 q237
        cases e237
        replace p237 := eq_true p237
        replace q237 := eq_true q237
        go_wp2
        repeat (go_quiet (fail); try go_wp2)
        go_roundg k1
        case measure => have := HK1.out; omega
        case rel => exact ⟨(wrap64 (x5_1 + 1)), Rr_, H', ⟨by have := HK1.out; omega⟩, by repeat (first | exact Drawn0.refl _ | apply Drawn0.step)⟩
       ·rw [if_neg c7] at H
        have c7b0 := beq_eq_false_iff_ne.mpr c7
        have c7b1 := bne_iff_ne.mpr c7
        obtain rfl := Option.some.inj H
        have p236 : 0 ≤ (x5_1 : Int) := of_decide_eq_true As_
        have q236 : x5_1 < (l0.length : Int) := of_decide_eq_true As_
        obtain ⟨ad236, e236, hx236_0⟩ := Kd.at_string HR0.out x5_1 p236 q236
        cases e236
        replace p236 := eq_true p236
        replace q236 := eq_true q236
        have p237 : 0 ≤ (x5_1 : Int) := of_decide_eq_true As_
        have q237 : x5_1 < (l1.length : Int) := of_decide_eq_true As_
        obtain ⟨ad237, e237, hx237_0⟩ := Kd.at_string HR1.out x5_1 p237 q237
        cases e237
        replace p237 := eq_true p237
        replace q237 := eq_true q237
        go_wp2
        repeat (go_quiet (fail); try go_wp2)
        go_ret
        exact ⟨by first | rfl | (simp; done) | (simp [*]; done), by repeat (first | exact Drawn0.refl _ | apply Drawn0.step)⟩
      ·rw [if_neg c6] at H
       exact absurd H (by simp)
     ·rw [if_neg c5] at H
      exact absurd H (by simp)
    ·rw [if_neg c4] at H
     have c4b0 := decide_eq_false c4
     clear c4
     obtain rfl := Option.some.inj H
     go_wp2
     repeat (go_quiet (fail); try go_wp2)
     go_ret
     exact ⟨by first | rfl | (simp; done) | (simp [*]; done), by repeat (first | exact Drawn0.refl _ | apply Drawn0.step)⟩
 ·rw [if_neg c3] at H
  have c3b0 := beq_eq_false_iff_ne.mpr c3
  have c3b1 := bne_iff_ne.mpr c3
  have c3b2 : (l0.length == l1.length) = false := by first | simpa using c3 | (simp at c3 ⊢; omega)
  obtain rfl := Option.some.inj H
  go_enter Try.func65, Try.ntmps65
  go_wp2
  repeat (go_quiet (fail); try go_wp2)
  go_ret
  exact ⟨by first | rfl | (simp; done) | (simp [*]; done), by repeat (first | exact Drawn0.refl _ | apply Drawn0.step)⟩

/-! ### laws_eqEntry: function 147 -/
def laws_eqEntry.f (a0_0 : ByteArray) (a0_1 : ByteArray) (a0_2 : Int) (a1_0 : ByteArray) (a1_1 : ByteArray) (a1_2 : Int) : Option (Bool) := if a0_0.toList = a1_0.toList then (if a0_1.toList = a1_1.toList then (if a0_2 = a1_2 then (some true) else (some false)) else (some false)) else (some false)
theorem laws_eqEntry.calls (a0_0 : ByteArray) (a0_1 : ByteArray) (a0_2 : Int) (a1_0 : ByteArray) (a1_1 : ByteArray) (a1_2 : Int) (r : Bool) (w : World) (h : laws_eqEntry.f a0_0 a0_1 a0_2 a1_0 a1_1 a1_2 = some r) :
  Calls Try.prog 147 #[.agg #[.string a0_0, .string a0_1, .int .i64 a0_2], .agg #[.string a1_0, .string a1_1, .int .i64 a1_2]] w fun e w' => e = .returned (.bool r) ∧ Below w.heap.size w w' := by
 have hu125 := Try.underlying125
 have HB := Aside0.mk (Below.refl w.heap.size w)
 have H : (if a0_0.toList = a1_0.toList then (if a0_1.toList = a1_1.toList then (if a0_2 = a1_2 then (some true) else (some false)) else (some false)) else (some false)) = some r := h
 clear h
 by_cases c3 : a0_0.toList = a1_0.toList
 ·rw [if_pos c3] at H
  have c3b0 := beq_iff_eq.mpr c3
  have c3b1 := bne_eq_false_iff_eq.mpr c3
  clear c3
  by_cases c4 : a0_1.toList = a1_1.toList
  ·rw [if_pos c4] at H
   have c4b0 := beq_iff_eq.mpr c4
   have c4b1 := bne_eq_false_iff_eq.mpr c4
   clear c4
   by_cases c5 : a0_2 = a1_2
   ·rw [if_pos c5] at H
    have c5b0 := beq_iff_eq.mpr c5
    have c5b1 := bne_eq_false_iff_eq.mpr c5
    clear c5
    obtain rfl := Option.some.inj H
    go_enter Try.func147, Try.ntmps147
    go_wp2_with (first | (refine Bv_ 2 #[.string a0_0, .string a0_1, .int .i64 a0_2] 125 ?_; intro gb238 hg w6 BK238 hb; have GW238 := Hg_ HB hg; replace HB := Hs_ HB hb; clear hb hg) | (refine Bv_ 3 #[.string a1_0, .string a1_1, .int .i64 a1_2] 125 ?_; intro gb239 hg w7 BK239 hb; have GW239 := Hg_ HB hg; have NB238_239 := Bl_ BK238 hg; have NB239_238 := Bm_ NB238_239; replace BK238 := Bb_ BK238 hb; replace HB := Hs_ HB hb; clear hb hg; have hnb8 := NB238_239.out; have hnc8 := NB239_238.out; obtain ⟨hcz9_0, hcz9_1, hcz9_2, hfz9_0, hfz9_1, hfz9_2⟩ := Bc3_ BK238; obtain ⟨hcz10_0, hcz10_1, hcz10_2, hfz10_0, hfz10_1, hfz10_2⟩ := Bc3_ BK239))
    go_ret
    exact ⟨Re_, Hf_ HB⟩
   ·rw [if_neg c5] at H
    have c5b0 := beq_eq_false_iff_ne.mpr c5
    have c5b1 := bne_iff_ne.mpr c5
    obtain rfl := Option.some.inj H
    go_enter Try.func147, Try.ntmps147
    go_wp2_with (first | (refine Bv_ 2 #[.string a0_0, .string a0_1, .int .i64 a0_2] 125 ?_; intro gb238 hg w11 BK238 hb; have GW238 := Hg_ HB hg; replace HB := Hs_ HB hb; clear hb hg) | (refine Bv_ 3 #[.string a1_0, .string a1_1, .int .i64 a1_2] 125 ?_; intro gb239 hg w12 BK239 hb; have GW239 := Hg_ HB hg; have NB238_239 := Bl_ BK238 hg; have NB239_238 := Bm_ NB238_239; replace BK238 := Bb_ BK238 hb; replace HB := Hs_ HB hb; clear hb hg; have hnb13 := NB238_239.out; have hnc13 := NB239_238.out; obtain ⟨hcz14_0, hcz14_1, hcz14_2, hfz14_0, hfz14_1, hfz14_2⟩ := Bc3_ BK238; obtain ⟨hcz15_0, hcz15_1, hcz15_2, hfz15_0, hfz15_1, hfz15_2⟩ := Bc3_ BK239))
    go_ret
    exact ⟨Re_, Hf_ HB⟩
  ·rw [if_neg c4] at H
   have c4b0 := beq_eq_false_iff_ne.mpr c4
   have c4b1 := bne_iff_ne.mpr c4
   obtain rfl := Option.some.inj H
   go_enter Try.func147, Try.ntmps147
   go_wp2_with (first | (refine Bv_ 2 #[.string a0_0, .string a0_1, .int .i64 a0_2] 125 ?_; intro gb238 hg w16 BK238 hb; have GW238 := Hg_ HB hg; replace HB := Hs_ HB hb; clear hb hg) | (refine Bv_ 3 #[.string a1_0, .string a1_1, .int .i64 a1_2] 125 ?_; intro gb239 hg w17 BK239 hb; have GW239 := Hg_ HB hg; have NB238_239 := Bl_ BK238 hg; have NB239_238 := Bm_ NB238_239; replace BK238 := Bb_ BK238 hb; replace HB := Hs_ HB hb; clear hb hg; have hnb18 := NB238_239.out; have hnc18 := NB239_238.out; obtain ⟨hcz19_0, hcz19_1, hcz19_2, hfz19_0, hfz19_1, hfz19_2⟩ := Bc3_ BK238; obtain ⟨hcz20_0, hcz20_1, hcz20_2, hfz20_0, hfz20_1, hfz20_2⟩ := Bc3_ BK239))
   go_ret
   exact ⟨Re_, Hf_ HB⟩
 ·rw [if_neg c3] at H
  have c3b0 := beq_eq_false_iff_ne.mpr c3
  have c3b1 := bne_iff_ne.mpr c3
  obtain rfl := Option.some.inj H
  go_enter Try.func147, Try.ntmps147
  go_wp2_with (first | (refine Bv_ 2 #[.string a0_0, .string a0_1, .int .i64 a0_2] 125 ?_; intro gb238 hg w21 BK238 hb; have GW238 := Hg_ HB hg; replace HB := Hs_ HB hb; clear hb hg) | (refine Bv_ 3 #[.string a1_0, .string a1_1, .int .i64 a1_2] 125 ?_; intro gb239 hg w22 BK239 hb; have GW239 := Hg_ HB hg; have NB238_239 := Bl_ BK238 hg; have NB239_238 := Bm_ NB238_239; replace BK238 := Bb_ BK238 hb; replace HB := Hs_ HB hb; clear hb hg; have hnb23 := NB238_239.out; have hnc23 := NB239_238.out; obtain ⟨hcz24_0, hcz24_1, hcz24_2, hfz24_0, hfz24_1, hfz24_2⟩ := Bc3_ BK238; obtain ⟨hcz25_0, hcz25_1, hcz25_2, hfz25_0, hfz25_1, hfz25_2⟩ := Bc3_ BK239))
  go_ret
  exact ⟨Re_, Hf_ HB⟩

end Go.Proofs.Ytegeahiflkjhmaa.PFnExactMonitorAt
