/- The machine side of the law FnExactValueOf: for each function that it reaches, a Lean function and its contract. Written by a program of this session's over the kit's print. No condition. -/
import Derived.Test.YtmbkcbgbienjoaaCmq
import Derived.Test.YtmbkcbgbienjoaaPFnExactValueOfx0
import Derived.Test.YtmbkcbgbienjoaaPFnExactValueOfx2
import Derived.Test.YtmbkcbgbienjoaaPFnExactValueOfx3
import Derived.Test.YtmbkcbgbienjoaaPFnExactValueOfx4
import Derived.Test.YtmbkcbgbienjoaaPFnExactValueOfx7
import Derived.Test.YtmbkcbgbienjoaaPFnExactValueOfx16
import Derived.Test.YtmbkcbgbienjoaaPFnExactValueOfx23
namespace Go.Proofs.Ytmbkcbgbienjoaa.PFnExactValueOf
open Go.RowKit Go.Proofs.YtmbkcbgbienjoaaW.PrintWords Go.Proofs.YtmbkcbgbienjoaaW.PrintLast Go.Proofs.YtmbkcbgbienjoaaW.PrintMore Go.Proofs.Ytmbkcbgbienjoaa.Cmp
attribute [local go_sem] max2_int min2_int max_two min_two max_three min_three max_four min_four   -- for this text's walks alone
set_option linter.unusedVariables false
set_option maxHeartbeats 8000000
set_option maxRecDepth 100000
set_option linter.unusedSimpArgs false

/-! ### laws_eqEnv: function 51 -/
def laws_eqEnv.f (k : Nat) (l0_0 : List ByteArray) (l0_1 : List Int) (l1_0 : List ByteArray) (l1_1 : List Int) : Option (Bool) := (laws_eqStringS.f k l0_0 l1_0).bind fun t558 => (if t558 = true then ((laws_eqIntS.f k l0_1 l1_1).bind fun t559 => (if t559 = true then (some true) else (some false))) else (some false))
theorem laws_eqEnv.calls (k : Nat) (A0_0 : Option Addr) (c0_0 : Nat) (l0_0 : List ByteArray) (A0_1 : Option Addr) (c0_1 : Nat) (l0_1 : List Int) (A1_0 : Option Addr) (c1_0 : Nat) (l1_0 : List ByteArray) (A1_1 : Option Addr) (c1_1 : Nat) (l1_1 : List Int) (r : Bool) (w : World) (hr0_0 : Kd.C Kd.string w A0_0 l0_0.length l0_0) (hc0_0 : l0_0.length ≤ c0_0) (hr0_1 : Kd.C (Kd.int .i64) w A0_1 l0_1.length l0_1) (hc0_1 : l0_1.length ≤ c0_1) (hr1_0 : Kd.C Kd.string w A1_0 l1_0.length l1_0) (hc1_0 : l1_0.length ≤ c1_0) (hr1_1 : Kd.C (Kd.int .i64) w A1_1 l1_1.length l1_1) (hc1_1 : l1_1.length ≤ c1_1) (h : laws_eqEnv.f k l0_0 l0_1 l1_0 l1_1 = some r) :
  Calls Try.prog 51 #[.agg #[.slice A0_0 l0_0.length c0_0, .slice A0_1 l0_1.length c0_1], .agg #[.slice A1_0 l1_0.length c1_0, .slice A1_1 l1_1.length c1_1]] w fun e w' => e = .returned (.bool r) ∧ Below w.heap.size w w' := by
 have hu42 := Try.underlying42
 have HR0_0 := Aside0.mk hr0_0
 have HC0_0 := Aside0.mk hc0_0
 clear hr0_0 hc0_0
 have HR0_1 := Aside0.mk hr0_1
 have HC0_1 := Aside0.mk hc0_1
 clear hr0_1 hc0_1
 have HR1_0 := Aside0.mk hr1_0
 have HC1_0 := Aside0.mk hc1_0
 clear hr1_0 hc1_0
 have HR1_1 := Aside0.mk hr1_1
 have HC1_1 := Aside0.mk hc1_1
 clear hr1_1 hc1_1
 have HB := Aside0.mk (Below.refl w.heap.size w)
 have H : ((laws_eqStringS.f k l0_0 l1_0).bind fun t558 => (if t558 = true then ((laws_eqIntS.f k l0_1 l1_1).bind fun t559 => (if t559 = true then (some true) else (some false))) else (some false))) = some r := h
 clear h
 obtain ⟨t558, A3, H⟩ := Bo_ H
 by_cases c4 : t558 = true
 ·subst c4
  rw [if_pos rfl] at H
  obtain ⟨t559, A5, H⟩ := Bo_ H
  by_cases c6 : t559 = true
  ·subst c6
   rw [if_pos rfl] at H
   obtain rfl := Option.some.inj H
   go_enter Try.func51, Try.ntmps51
   go_wp2_with (first | (refine Bv_ 2 #[.slice A0_0 l0_0.length c0_0, .slice A0_1 l0_1.length c0_1] 42 ?_; intro gb556 hg w7 BK556 hb; have GW556 := Hg_ HB hg; replace HB := Hs_ HB hb; clear hb hg) | (refine Bv_ 3 #[.slice A1_0 l1_0.length c1_0, .slice A1_1 l1_1.length c1_1] 42 ?_; intro gb557 hg w8 BK557 hb; have GW557 := Hg_ HB hg; have NB556_557 := Bl_ BK556 hg; have NB557_556 := Bm_ NB556_557; replace BK556 := Bb_ BK556 hb; replace HB := Hs_ HB hb; clear hb hg; have hnb9 := NB556_557.out; have hnc9 := NB557_556.out; obtain ⟨hcz10_0, hcz10_1, hfz10_0, hfz10_1⟩ := Bc2_ BK556; obtain ⟨hcz11_0, hcz11_1, hfz11_0, hfz11_1⟩ := Bc2_ BK557) | (refine Gl_ (some 9) Try.func31 ((laws_eqStringS.calls k _ _ l0_0 _ _ l1_0 true _ (Sc_ HR0_0 HB) HC0_0.out (Sc_ HR1_0 HB) HC1_0.out A3.out).mono ?_); rintro e w' ⟨rfl, ⟨nd, rfl⟩⟩; refine ⟨_, rfl, ?_⟩) | (refine Gl_ (some 15) Try.func23 ((laws_eqIntS.calls k _ _ l0_1 _ _ l1_1 true _ (Sh_ HR0_1 HB) HC0_1.out (Sh_ HR1_1 HB) HC1_1.out A5.out).mono ?_); rintro e w' ⟨rfl, ⟨nd, rfl⟩⟩; refine ⟨_, rfl, ?_⟩))
   go_ret
   exact ⟨Re_, Hf_ HB⟩
  ·replace c6 := Bool.eq_false_iff.mpr c6
   subst c6
   rw [if_neg Ff_] at H
   obtain rfl := Option.some.inj H
   go_enter Try.func51, Try.ntmps51
   go_wp2_with (first | (refine Bv_ 2 #[.slice A0_0 l0_0.length c0_0, .slice A0_1 l0_1.length c0_1] 42 ?_; intro gb556 hg w12 BK556 hb; have GW556 := Hg_ HB hg; replace HB := Hs_ HB hb; clear hb hg) | (refine Bv_ 3 #[.slice A1_0 l1_0.length c1_0, .slice A1_1 l1_1.length c1_1] 42 ?_; intro gb557 hg w13 BK557 hb; have GW557 := Hg_ HB hg; have NB556_557 := Bl_ BK556 hg; have NB557_556 := Bm_ NB556_557; replace BK556 := Bb_ BK556 hb; replace HB := Hs_ HB hb; clear hb hg; have hnb14 := NB556_557.out; have hnc14 := NB557_556.out; obtain ⟨hcz15_0, hcz15_1, hfz15_0, hfz15_1⟩ := Bc2_ BK556; obtain ⟨hcz16_0, hcz16_1, hfz16_0, hfz16_1⟩ := Bc2_ BK557) | (refine Gl_ (some 9) Try.func31 ((laws_eqStringS.calls k _ _ l0_0 _ _ l1_0 true _ (Sc_ HR0_0 HB) HC0_0.out (Sc_ HR1_0 HB) HC1_0.out A3.out).mono ?_); rintro e w' ⟨rfl, ⟨nd, rfl⟩⟩; refine ⟨_, rfl, ?_⟩) | (refine Gl_ (some 15) Try.func23 ((laws_eqIntS.calls k _ _ l0_1 _ _ l1_1 false _ (Sh_ HR0_1 HB) HC0_1.out (Sh_ HR1_1 HB) HC1_1.out A5.out).mono ?_); rintro e w' ⟨rfl, ⟨nd, rfl⟩⟩; refine ⟨_, rfl, ?_⟩))
   go_ret
   exact ⟨Re_, Hf_ HB⟩
 ·replace c4 := Bool.eq_false_iff.mpr c4
  subst c4
  rw [if_neg Ff_] at H
  obtain rfl := Option.some.inj H
  go_enter Try.func51, Try.ntmps51
  go_wp2_with (first | (refine Bv_ 2 #[.slice A0_0 l0_0.length c0_0, .slice A0_1 l0_1.length c0_1] 42 ?_; intro gb556 hg w17 BK556 hb; have GW556 := Hg_ HB hg; replace HB := Hs_ HB hb; clear hb hg) | (refine Bv_ 3 #[.slice A1_0 l1_0.length c1_0, .slice A1_1 l1_1.length c1_1] 42 ?_; intro gb557 hg w18 BK557 hb; have GW557 := Hg_ HB hg; have NB556_557 := Bl_ BK556 hg; have NB557_556 := Bm_ NB556_557; replace BK556 := Bb_ BK556 hb; replace HB := Hs_ HB hb; clear hb hg; have hnb19 := NB556_557.out; have hnc19 := NB557_556.out; obtain ⟨hcz20_0, hcz20_1, hfz20_0, hfz20_1⟩ := Bc2_ BK556; obtain ⟨hcz21_0, hcz21_1, hfz21_0, hfz21_1⟩ := Bc2_ BK557) | (refine Gl_ (some 9) Try.func31 ((laws_eqStringS.calls k _ _ l0_0 _ _ l1_0 false _ (Sc_ HR0_0 HB) HC0_0.out (Sc_ HR1_0 HB) HC1_0.out A3.out).mono ?_); rintro e w' ⟨rfl, ⟨nd, rfl⟩⟩; refine ⟨_, rfl, ?_⟩))
  go_ret
  exact ⟨Re_, Hf_ HB⟩

/-! ### laws_FnExactValueOf: function 12 -/
def laws_FnExactValueOf.j0 : Nat → Bool → List (S113) → List (S117) → List (S119) → List ByteArray → List Int → List (S77) → List (S106) → List (S103) → List ByteArray → List Int → Option (Bool)
 | 0, _, _, _, _, _, _, _, _, _, _, _ => none
 | k + 1, x51, x561000, x561001, x561002, x562000, x562001, x591000, x591001, x591002, x598000, x598001 => if x51 = true then (some false) else ((laws_toProgram.f k x561000 x561001 x561002).bind fun bt600 => ((laws_eqProgram.f k x591000 x591001 x591002 bt600.1 bt600.2.1 bt600.2.2).bind fun t609 => (if t609 = true then ((laws_toEnv.f k x562000 x562001).bind fun bt610 => ((laws_eqEnv.f k x598000 x598001 bt610.1 bt610.2).bind fun t616 => (if t616 = true then (some true) else (some false)))) else (some false))))
def laws_FnExactValueOf.f (k : Nat) (l0_0 : List (S113)) (l0_1 : List (S117)) (l0_2 : List (S119)) (a1 : Int) (l2_0 : List ByteArray) (l2_1 : List Int) : Option (Bool) := (laws_szProgram.f k l0_0 l0_1 l0_2 1048576).bind fun t562 => (if t562 < 0 then (some true) else ((laws_szEnv.f k l2_0 l2_1 t562).bind fun t563 => (if t563 < 0 then (some true) else ((laws_toProgram.f k l0_0 l0_1 l0_2).bind fun bt564 => ((laws_toEnv.f k l2_0 l2_1).bind fun bt573 => ((spec_ValueOf.f k bt564.1 bt564.2.1 bt564.2.2 a1 bt573.1 bt573.2).bind fun bt579 => ((laws_toProgram.f k l0_0 l0_1 l0_2).bind fun bt581 => ((laws_toEnv.f k l2_0 l2_1).bind fun bt591 => ((impl_ValueOf.f k bt581.1 bt581.2.1 bt581.2.2 a1 bt591.1 bt591.2).bind fun bt598 => (if bt598.1 = bt579.1 then (laws_FnExactValueOf.j0 k (bt598.2 != bt579.2) l0_0 l0_1 l0_2 l2_0 l2_1 bt581.1 bt581.2.1 bt581.2.2 bt591.1 bt591.2) else (laws_FnExactValueOf.j0 k true l0_0 l0_1 l0_2 l2_0 l2_1 bt581.1 bt581.2.1 bt581.2.2 bt591.1 bt591.2)))))))))))
def laws_FnExactValueOf.T8 : Bool × List (List Nat × List Nat) := (true, [([], []), ([0], [0]), ([], []), ([], []), ([3, 1], [3]), ([1, 2, 4, 4], [1, 2, 4]), ([5], [5]), ([6], [6]), ([6], [6]), ([7, 5, 0, 1, 2, 3, 4, 5, 6, 7], [7]), ([8, 9, 0, 1, 2, 3, 4, 5, 6, 7, 8, 9], [8])])
def laws_FnExactValueOf.B8 : List Nat := [0, 1, 0, 0, 11, 31, 63, 127, 127, 255, 1023]
theorem laws_FnExactValueOf.tab8 : rtab .any (opsOf Try.f12 8) = laws_FnExactValueOf.T8 := by kernel_rfl
theorem laws_FnExactValueOf.bits8 : waitsOk laws_FnExactValueOf.T8.2 laws_FnExactValueOf.B8 = true := by kernel_rfl
theorem laws_FnExactValueOf.calls (k : Nat) (A0_0 : Option Addr) (c0_0 : Nat) (l0_0 : List (S113)) (A0_1 : Option Addr) (c0_1 : Nat) (l0_1 : List (S117)) (A0_2 : Option Addr) (c0_2 : Nat) (l0_2 : List (S119)) (a1 : Int) (A2_0 : Option Addr) (c2_0 : Nat) (l2_0 : List ByteArray) (A2_1 : Option Addr) (c2_1 : Nat) (l2_1 : List Int) (r : Bool) (w : World) (hr0_0 : Kd.C k113 w A0_0 l0_0.length l0_0) (hc0_0 : l0_0.length ≤ c0_0) (hr0_1 : Kd.C k117 w A0_1 l0_1.length l0_1) (hc0_1 : l0_1.length ≤ c0_1) (hr0_2 : Kd.C k119 w A0_2 l0_2.length l0_2) (hc0_2 : l0_2.length ≤ c0_2) (hr2_0 : Kd.C Kd.string w A2_0 l2_0.length l2_0) (hc2_0 : l2_0.length ≤ c2_0) (hr2_1 : Kd.C (Kd.int .i64) w A2_1 l2_1.length l2_1) (hc2_1 : l2_1.length ≤ c2_1) (hlaw_ : Aside0 (r = true)) (h : laws_FnExactValueOf.f k l0_0 l0_1 l0_2 a1 l2_0 l2_1 = some r) :
  Calls Try.prog 12 #[.agg #[.slice A0_0 l0_0.length c0_0, .slice A0_1 l0_1.length c0_1, .slice A0_2 l0_2.length c0_2], .int .i64 a1, .agg #[.slice A2_0 l2_0.length c2_0, .slice A2_1 l2_1.length c2_1]] w fun e w' => e = .returned (.bool r) ∧ Below w.heap.size w w' := by
 have hu26 := Try.underlying26
 have hu30 := Try.underlying30
 have hu40 := Try.underlying40
 have hu42 := Try.underlying42
 have HR0_0 := Aside0.mk hr0_0
 have HC0_0 := Aside0.mk hc0_0
 clear hr0_0 hc0_0
 have HR0_1 := Aside0.mk hr0_1
 have HC0_1 := Aside0.mk hc0_1
 clear hr0_1 hc0_1
 have HR0_2 := Aside0.mk hr0_2
 have HC0_2 := Aside0.mk hc0_2
 clear hr0_2 hc0_2
 have HR2_0 := Aside0.mk hr2_0
 have HC2_0 := Aside0.mk hc2_0
 clear hr2_0 hc2_0
 have HR2_1 := Aside0.mk hr2_1
 have HC2_1 := Aside0.mk hc2_1
 clear hr2_1 hc2_1
 have HB := Aside0.mk (Below.refl w.heap.size w)
 have H : ((laws_szProgram.f k l0_0 l0_1 l0_2 1048576).bind fun t562 => (if t562 < 0 then (some true) else ((laws_szEnv.f k l2_0 l2_1 t562).bind fun t563 => (if t563 < 0 then (some true) else ((laws_toProgram.f k l0_0 l0_1 l0_2).bind fun bt564 => ((laws_toEnv.f k l2_0 l2_1).bind fun bt573 => ((spec_ValueOf.f k bt564.1 bt564.2.1 bt564.2.2 a1 bt573.1 bt573.2).bind fun bt579 => ((laws_toProgram.f k l0_0 l0_1 l0_2).bind fun bt581 => ((laws_toEnv.f k l2_0 l2_1).bind fun bt591 => ((impl_ValueOf.f k bt581.1 bt581.2.1 bt581.2.2 a1 bt591.1 bt591.2).bind fun bt598 => (if bt598.1 = bt579.1 then (laws_FnExactValueOf.j0 k (bt598.2 != bt579.2) l0_0 l0_1 l0_2 l2_0 l2_1 bt581.1 bt581.2.1 bt581.2.2 bt591.1 bt591.2) else (laws_FnExactValueOf.j0 k true l0_0 l0_1 l0_2 l2_0 l2_1 bt581.1 bt581.2.1 bt581.2.2 bt591.1 bt591.2)))))))))))) = some r := h
 clear h
 obtain ⟨t562, A4, H⟩ := Bo_ H
 by_cases c5 : t562 < 0
 ·rw [if_pos c5] at H
  have c5b0 := decide_eq_true c5
  clear c5
  obtain rfl := Option.some.inj H
  go_enter Try.func12, Try.ntmps12
  go_wp2_with (first | (refine Bv_ 3 #[.slice A0_0 l0_0.length c0_0, .slice A0_1 l0_1.length c0_1, .slice A0_2 l0_2.length c0_2] 26 ?_; intro gb560 hg w6 BK560 hb; have GW560 := Hg_ HB hg; replace HB := Hs_ HB hb; clear hb hg) | (refine Bv_ 5 #[.slice A2_0 l2_0.length c2_0, .slice A2_1 l2_1.length c2_1] 30 ?_; intro gb561 hg w7 BK561 hb; have GW561 := Hg_ HB hg; have NB560_561 := Bl_ BK560 hg; have NB561_560 := Bm_ NB560_561; replace BK560 := Bb_ BK560 hb; replace HB := Hs_ HB hb; clear hb hg; have hnb8 := NB560_561.out; have hnc8 := NB561_560.out; obtain ⟨hcz9_0, hcz9_1, hcz9_2, hfz9_0, hfz9_1, hfz9_2⟩ := Bc3_ BK560) | (refine Gl_ (some 16) Try.func13 ((laws_szProgram.calls k _ _ l0_0 _ _ l0_1 _ _ l0_2 1048576 t562 _ (Sc_ HR0_0 HB) HC0_0.out (Sc_ HR0_1 HB) HC0_1.out (Sc_ HR0_2 HB) HC0_2.out A4.out).mono ?_); rintro e w10 ⟨rfl, hb⟩; refine ⟨_, rfl, ?_⟩; replace BK560 := Bb_ BK560 hb; replace BK561 := Bb_ BK561 hb; replace HB := Hs_ HB hb; clear hb))
  go_ret
  exact ⟨Re_, Hf_ HB⟩
 ·rw [if_neg c5] at H
  have c5b0 := decide_eq_false c5
  clear c5
  obtain ⟨t563, A11, H⟩ := Bo_ H
  by_cases c12 : t563 < 0
  ·rw [if_pos c12] at H
   have c12b0 := decide_eq_true c12
   clear c12
   obtain rfl := Option.some.inj H
   go_enter Try.func12, Try.ntmps12
   go_wp2_with (first | (refine Bv_ 3 #[.slice A0_0 l0_0.length c0_0, .slice A0_1 l0_1.length c0_1, .slice A0_2 l0_2.length c0_2] 26 ?_; intro gb560 hg w13 BK560 hb; have GW560 := Hg_ HB hg; replace HB := Hs_ HB hb; clear hb hg) | (refine Bv_ 5 #[.slice A2_0 l2_0.length c2_0, .slice A2_1 l2_1.length c2_1] 30 ?_; intro gb561 hg w14 BK561 hb; have GW561 := Hg_ HB hg; have NB560_561 := Bl_ BK560 hg; have NB561_560 := Bm_ NB560_561; replace BK560 := Bb_ BK560 hb; replace HB := Hs_ HB hb; clear hb hg; have hnb15 := NB560_561.out; have hnc15 := NB561_560.out; obtain ⟨hcz16_0, hcz16_1, hcz16_2, hfz16_0, hfz16_1, hfz16_2⟩ := Bc3_ BK560) | (refine Gl_ (some 16) Try.func13 ((laws_szProgram.calls k _ _ l0_0 _ _ l0_1 _ _ l0_2 1048576 t562 _ (Sc_ HR0_0 HB) HC0_0.out (Sc_ HR0_1 HB) HC0_1.out (Sc_ HR0_2 HB) HC0_2.out A4.out).mono ?_); rintro e w17 ⟨rfl, hb⟩; refine ⟨_, rfl, ?_⟩; replace BK560 := Bb_ BK560 hb; replace BK561 := Bb_ BK561 hb; replace HB := Hs_ HB hb; clear hb; obtain ⟨hcz18_0, hcz18_1, hfz18_0, hfz18_1⟩ := Bc2_ BK561) | (refine Gl_ (some 21) Try.func47 ((laws_szEnv.calls k _ _ l2_0 _ _ l2_1 t562 t563 _ (Sc_ HR2_0 HB) HC2_0.out (Sc_ HR2_1 HB) HC2_1.out A11.out).mono ?_); rintro e w19 ⟨rfl, hb⟩; refine ⟨_, rfl, ?_⟩; replace BK560 := Bb_ BK560 hb; replace BK561 := Bb_ BK561 hb; replace HB := Hs_ HB hb; clear hb))
   go_ret
   exact ⟨Re_, Hf_ HB⟩
  ·rw [if_neg c12] at H
   have c12b0 := decide_eq_false c12
   clear c12
   obtain ⟨⟨t564, t567, t570⟩, A20, H⟩ := Bo_ H
   try dsimp only at H
   obtain ⟨⟨t573, t576⟩, A21, H⟩ := Bo_ H
   try dsimp only at H
   obtain ⟨⟨t579, t580⟩, A22, H⟩ := Bo_ H
   try dsimp only at H
   obtain ⟨⟨t581, t584, t587⟩, A23, H⟩ := Bo_ H
   try dsimp only at H
   obtain ⟨⟨t591, t594⟩, A24, H⟩ := Bo_ H
   try dsimp only at H
   obtain ⟨⟨t598, t599⟩, A25, H⟩ := Bo_ H
   try dsimp only at H
   have HC26 := Aside0.mk H
   clear H
   go_enter Try.func12, Try.ntmps12
   try go_wp2_with (first | (refine Bv_ 3 #[.slice A0_0 l0_0.length c0_0, .slice A0_1 l0_1.length c0_1, .slice A0_2 l0_2.length c0_2] 26 ?_; intro gb560 hg w27 BK560 hb; have GW560 := Hg_ HB hg; replace HB := Hs_ HB hb; clear hb hg) | (refine Bv_ 5 #[.slice A2_0 l2_0.length c2_0, .slice A2_1 l2_1.length c2_1] 30 ?_; intro gb561 hg w28 BK561 hb; have GW561 := Hg_ HB hg; have NB560_561 := Bl_ BK560 hg; have NB561_560 := Bm_ NB560_561; replace BK560 := Bb_ BK560 hb; replace HB := Hs_ HB hb; clear hb hg; have hnb29 := NB560_561.out; have hnc29 := NB561_560.out; obtain ⟨hcz30_0, hcz30_1, hcz30_2, hfz30_0, hfz30_1, hfz30_2⟩ := Bc3_ BK560) | (refine Gl_ (some 16) Try.func13 ((laws_szProgram.calls k _ _ l0_0 _ _ l0_1 _ _ l0_2 1048576 t562 _ (Sc_ HR0_0 HB) HC0_0.out (Sc_ HR0_1 HB) HC0_1.out (Sc_ HR0_2 HB) HC0_2.out A4.out).mono ?_); rintro e w31 ⟨rfl, hb⟩; refine ⟨_, rfl, ?_⟩; replace BK560 := Bb_ BK560 hb; replace BK561 := Bb_ BK561 hb; replace HB := Hs_ HB hb; clear hb; obtain ⟨hcz32_0, hcz32_1, hfz32_0, hfz32_1⟩ := Bc2_ BK561) | (refine Gl_ (some 21) Try.func47 ((laws_szEnv.calls k _ _ l2_0 _ _ l2_1 t562 t563 _ (Sc_ HR2_0 HB) HC2_0.out (Sc_ HR2_1 HB) HC2_1.out A11.out).mono ?_); rintro e w33 ⟨rfl, hb⟩; refine ⟨_, rfl, ?_⟩; replace BK560 := Bb_ BK560 hb; replace BK561 := Bb_ BK561 hb; replace HB := Hs_ HB hb; clear hb))
   replace BK560 := Aside0.mk (blk_drew BK560.out); replace BK561 := Aside0.mk (blk_drew BK561.out); replace HB := Aside0.mk (below_drew1 HB.out)
   refine start_ (n := 11) (S := fun w' => w'.cell? ⟨gb560, 0, none⟩ = some (.slice A0_0 l0_0.length c0_0) ∧ w'.cell? ⟨gb560, 1, none⟩ = some (.slice A0_1 l0_1.length c0_1) ∧ w'.cell? ⟨gb560, 2, none⟩ = some (.slice A0_2 l0_2.length c0_2) ∧ w'.cell? ⟨gb561, 0, none⟩ = some (.slice A2_0 l2_0.length c2_0) ∧ w'.cell? ⟨gb561, 1, none⟩ = some (.slice A2_1 l2_1.length c2_1)) (ds := []) #[false, false, false, false, false, false, false, false, false, false, false] (by kernel_rfl) rfl rfl ⟨(blk_cell BK560.out 0).trans rfl, (blk_cell BK560.out 1).trans rfl, (blk_cell BK560.out 2).trans rfl, (blk_cell BK561.out 0).trans rfl, (blk_cell BK561.out 1).trans rfl⟩ (fun hHeld => ?_); refine with_tabW laws_FnExactValueOf.tab8 laws_FnExactValueOf.bits8 (fun HT_ HW_ => ?_)
   generalize w33.drew = w34 at BK560 BK561 HB hHeld ⊢
   refine Pu_ 2 (some 27) HT_ ?_
   refine Tk_ 0 (some 25) HT_ HW_ hHeld ?_
   refine Tk_ 3 (some 28) HT_ HW_ hHeld ?_
   refine On_ 1 (some 26) HT_ (fun K hK => ?_)
   refine Gs_ Try.func16 ((laws_toProgram.calls k _ _ l0_0 _ _ l0_1 _ _ l0_2 t564 t567 t570 _ (Sc_ HR0_0 HB) HC0_0.out (Sc_ HR0_1 HB) HC0_1.out (Sc_ HR0_2 HB) HC0_2.out A20.out).mono ?_)
   rintro e w35 ⟨v565, v568, v571, rfl, ho0, ho1, ho2, hb⟩
   refine ⟨_, rfl, ?_⟩
   have HO566 := Aside0.mk (Kd.S_lower ho0 (below_size (Hf_ HB))); have HO569 := Aside0.mk (Kd.S_lower ho1 (below_size (Hf_ HB))); have HO572 := Aside0.mk (Kd.S_lower ho2 (below_size (Hf_ HB))); replace BK560 := Bb_ BK560 hb; replace BK561 := Bb_ BK561 hb; replace HB := Hs_ HB hb
   clear hb
   (try clear ho0)
   (try clear ho1)
   (try clear ho2)
   refine hK.out _ _ ⟨(blk_cell BK560.out 0).trans rfl, (blk_cell BK560.out 1).trans rfl, (blk_cell BK560.out 2).trans rfl, (blk_cell BK561.out 0).trans rfl, (blk_cell BK561.out 1).trans rfl⟩ (fun hHeld => ?_)
   clear hK K
   refine No_ (some 26) ?_
   refine On_ 4 (some 29) HT_ (fun K hK => ?_)
   refine Gs_ Try.func49 ((laws_toEnv.calls k _ _ l2_0 _ _ l2_1 t573 t576 _ (Sc_ HR2_0 HB) HC2_0.out (Sc_ HR2_1 HB) HC2_1.out A21.out).mono ?_)
   rintro e w36 ⟨v574, v577, rfl, ho0, ho1, hb⟩
   refine ⟨_, rfl, ?_⟩
   have HO575 := Aside0.mk (Kd.R_lower ho0 (below_size (Hf_ HB))); have HO578 := Aside0.mk (Kd.R_lower ho1 (below_size (Hf_ HB))); replace HO566 := Aside0.mk (Kd.S_elder' (by (with_reducible repeat (first | apply Kd.S_alloc | apply Kd.S_drewN | apply Kd.S_drew)); exact HO566.out) (Kd.R_base ho1) hb); replace HO569 := Aside0.mk (Kd.S_elder' (by (with_reducible repeat (first | apply Kd.S_alloc | apply Kd.S_drewN | apply Kd.S_drew)); exact HO569.out) (Kd.R_base ho0) hb); replace HO572 := Aside0.mk (Kd.S_elder' (by (with_reducible repeat (first | apply Kd.S_alloc | apply Kd.S_drewN | apply Kd.S_drew)); exact HO572.out) (Kd.R_base ho0) hb); replace BK560 := Bb_ BK560 hb; replace BK561 := Bb_ BK561 hb; replace HB := Hs_ HB hb
   clear hb
   (try clear ho0)
   (try clear ho1)
   obtain ⟨Ao37, co37, eo37⟩ := Kd.S_slice HO566.out
   (first | subst eo37 | (injection eo37 with f1_ f2_ f3_; have f4_ := f1_.symm; have f5_ := f3_.symm; clear f1_ f2_ f3_; subst f4_; subst f5_))
   obtain ⟨Ao38, co38, eo38⟩ := Kd.S_slice HO569.out
   (first | subst eo38 | (injection eo38 with f1_ f2_ f3_; have f4_ := f1_.symm; have f5_ := f3_.symm; clear f1_ f2_ f3_; subst f4_; subst f5_))
   obtain ⟨Ao39, co39, eo39⟩ := Kd.S_slice HO572.out
   (first | subst eo39 | (injection eo39 with f1_ f2_ f3_; have f4_ := f1_.symm; have f5_ := f3_.symm; clear f1_ f2_ f3_; subst f4_; subst f5_))
   obtain ⟨Ao40, co40, eo40⟩ := Kd.R_slice HO575.out
   (first | subst eo40 | (injection eo40 with f1_ f2_ f3_; have f4_ := f1_.symm; have f5_ := f3_.symm; clear f1_ f2_ f3_; subst f4_; subst f5_))
   obtain ⟨Ao41, co41, eo41⟩ := Kd.R_slice HO578.out
   (first | subst eo41 | (injection eo41 with f1_ f2_ f3_; have f4_ := f1_.symm; have f5_ := f3_.symm; clear f1_ f2_ f3_; subst f4_; subst f5_))
   refine hK.out _ _ ⟨(blk_cell BK560.out 0).trans rfl, (blk_cell BK560.out 1).trans rfl, (blk_cell BK560.out 2).trans rfl, (blk_cell BK561.out 0).trans rfl, (blk_cell BK561.out 1).trans rfl⟩ (fun hHeld => ?_)
   clear hK K
   refine No_ (some 29) ?_
   refine On_ 5 (some 30) HT_ (fun K hK => ?_)
   refine Gs_ Try.func48 ((spec_ValueOf.calls k _ _ t564 _ _ t567 _ _ t570 a1 _ _ t573 _ _ t576 t579 t580 _ (Cq_ (Kd.S_reads' HO566.out).2.2) ((Kd.S_reads' HO566.out).2.1) (Cq_ (Kd.S_reads' HO569.out).2.2) ((Kd.S_reads' HO569.out).2.1) (Cq_ (Kd.S_reads' HO572.out).2.2) ((Kd.S_reads' HO572.out).2.1) (Cq_ (Kd.R_reads' HO575.out).2.2) ((Kd.R_reads' HO575.out).2.1) (Cq_ (Kd.R_reads' HO578.out).2.2) ((Kd.R_reads' HO578.out).2.1) A22.out).mono ?_)
   rintro e w42 ⟨rfl, hb⟩
   refine ⟨_, rfl, ?_⟩
   replace HO566 := Sb_ HO566 hb; replace HO569 := Sb_ HO569 hb; replace HO572 := Sb_ HO572 hb; replace HO575 := Rb_ HO575 hb; replace HO578 := Rb_ HO578 hb; replace BK560 := Bb_ BK560 hb; replace BK561 := Bb_ BK561 hb; replace HB := Hs_ HB hb
   clear hb
   refine hK.out _ _ ⟨(blk_cell BK560.out 0).trans rfl, (blk_cell BK560.out 1).trans rfl, (blk_cell BK560.out 2).trans rfl, (blk_cell BK561.out 0).trans rfl, (blk_cell BK561.out 1).trans rfl⟩ (fun hHeld => ?_)
   clear hK K
   refine No_ (some 30) ?_
   refine Pu_ 6 (some 24) HT_ ?_
   refine Pu_ 7 (some 31) HT_ ?_
   refine Pu_ 8 (some 32) HT_ ?_
   refine Pu_ 9 (some 8) HT_ ?_
   refine Pu_ 10 (some 9) HT_ ?_
   refine done_ (done_of HT_.out (by kernel_rfl)) ?_
   obtain ⟨hcz43_0, hcz43_1, hcz43_2, hfz43_0, hfz43_1, hfz43_2⟩ := Bc3_ BK560
   go_upto_region 12 with (first | (refine Gl_ (some 34) Try.func16 ((laws_toProgram.calls k _ _ l0_0 _ _ l0_1 _ _ l0_2 t581 t584 t587 _ (Sc_ HR0_0 HB) HC0_0.out (Sc_ HR0_1 HB) HC0_1.out (Sc_ HR0_2 HB) HC0_2.out A23.out).mono ?_); rintro e w44 ⟨v582, v585, v588, rfl, ho0, ho1, ho2, hb⟩; refine ⟨_, rfl, ?_⟩; have HO583 := Aside0.mk (Kd.S_lower (Kd.S_new' (Kd.S_new' ho0 (Kd.S_lt (by (with_reducible repeat (first | apply Kd.S_alloc | apply Kd.S_drewN | apply Kd.S_drew)); exact HO566.out))) (Kd.R_lt (Rq_ HO578))) (below_size (Hf_ HB))); have HO586 := Aside0.mk (Kd.S_lower (Kd.S_new' (Kd.S_new' ho1 (Kd.S_lt (by (with_reducible repeat (first | apply Kd.S_alloc | apply Kd.S_drewN | apply Kd.S_drew)); exact HO569.out))) (Kd.R_lt (Rq_ HO575))) (below_size (Hf_ HB))); have HO589 := Aside0.mk (Kd.S_lower (Kd.S_new' (Kd.S_new' ho2 (Kd.S_lt (by (with_reducible repeat (first | apply Kd.S_alloc | apply Kd.S_drewN | apply Kd.S_drew)); exact HO572.out))) (Kd.R_lt (Rq_ HO575))) (below_size (Hf_ HB))); replace HO566 := Aside0.mk (Kd.S_elder' (by (with_reducible repeat (first | apply Kd.S_alloc | apply Kd.S_drewN | apply Kd.S_drew)); exact HO566.out) (Kd.S_base ho0) hb); replace HO569 := Aside0.mk (Kd.S_elder' (by (with_reducible repeat (first | apply Kd.S_alloc | apply Kd.S_drewN | apply Kd.S_drew)); exact HO569.out) (Kd.S_base ho1) hb); replace HO572 := Aside0.mk (Kd.S_elder' (by (with_reducible repeat (first | apply Kd.S_alloc | apply Kd.S_drewN | apply Kd.S_drew)); exact HO572.out) (Kd.S_base ho2) hb); replace HO575 := Rb_ HO575 hb; replace HO578 := Rb_ HO578 hb; replace BK560 := Bb_ BK560 hb; replace BK561 := Bb_ BK561 hb; replace HB := Hs_ HB hb; clear hb; (try clear ho0); (try clear ho1); (try clear ho2)) | (refine Bv_ 10 #[.slice none 0 0, .slice none 0 0, .slice none 0 0] 40 ?_; intro gb590 hg w45 BK590 hb; have GW590 := Hg_ HB hg; have NB560_590 := Bl_ BK560 hg; have NB590_560 := Bm_ NB560_590; have NB561_590 := Bl_ BK561 hg; have NB590_561 := Bm_ NB561_590; replace HO566 := Sb_ HO566 hb; replace HO569 := Sb_ HO569 hb; replace HO572 := Sb_ HO572 hb; replace HO575 := Rb_ HO575 hb; replace HO578 := Rb_ HO578 hb; replace HO583 := Sb_ HO583 hb; replace HO586 := Sb_ HO586 hb; replace HO589 := Sb_ HO589 hb; replace BK560 := Bb_ BK560 hb; replace BK561 := Bb_ BK561 hb; replace HB := Hs_ HB hb; clear hb hg; obtain ⟨Ao46, co46, eo46⟩ := Kd.S_slice HO583.out; subst eo46; have hnb47 := NB590_560.out; have hnc47 := NB560_590.out; have hnb48 := NB590_561.out; have hnc48 := NB561_590.out; obtain ⟨hcz49_0, hcz49_1, hcz49_2, hfz49_0, hfz49_1, hfz49_2⟩ := Bc3_ BK590; obtain ⟨Ao50, co50, eo50⟩ := Kd.S_slice HO586.out; subst eo50; obtain ⟨Ao51, co51, eo51⟩ := Kd.S_slice HO589.out; subst eo51; obtain ⟨hcz52_0, hcz52_1, hfz52_0, hfz52_1⟩ := Bc2_ BK561) | (refine Gl_ (some 36) Try.func49 ((laws_toEnv.calls k _ _ l2_0 _ _ l2_1 t591 t594 _ (Kd.C_below HR2_0.out (Hf_ HB)) HC2_0.out (Kd.C_below HR2_1.out (Hf_ HB)) HC2_1.out A24.out).mono ?_); rintro e w53 ⟨v592, v595, rfl, ho0, ho1, hb⟩; refine ⟨_, rfl, ?_⟩; have HO593 := Aside0.mk (Kd.R_lower (Kd.R_new' ho0 (Kd.R_lt (by (with_reducible repeat (first | apply Kd.R_alloc | apply Kd.R_drewN | apply Kd.R_drew)); exact (Kd.R_mono (Kd.R_far (p := ⟨gb590, 2, none⟩) (Kd.R_far (p := ⟨gb590, 1, none⟩) (Kd.R_far (p := ⟨gb590, 0, none⟩) (Kd.R_types HO575.out BK590.out (by decide)) (fun _ hk => hk.2) (.slice Ao46 t581.length co46)) (fun _ hk => hk.2) (.slice Ao50 t584.length co50)) (fun _ hk => hk.2) (.slice Ao51 t587.length co51)) (fun _ h_ => h_.1))))) (below_size (Hf_ HB))); have HO596 := Aside0.mk (Kd.R_lower (Kd.R_new' ho1 (Kd.R_lt (by (with_reducible repeat (first | apply Kd.R_alloc | apply Kd.R_drewN | apply Kd.R_drew)); exact (Kd.R_mono (Kd.R_far (p := ⟨gb590, 2, none⟩) (Kd.R_far (p := ⟨gb590, 1, none⟩) (Kd.R_far (p := ⟨gb590, 0, none⟩) (Kd.R_types HO578.out BK590.out (by decide)) (fun _ hk => hk.2) (.slice Ao46 t581.length co46)) (fun _ hk => hk.2) (.slice Ao50 t584.length co50)) (fun _ hk => hk.2) (.slice Ao51 t587.length co51)) (fun _ h_ => h_.1))))) (below_size (Hf_ HB))); replace HO566 := Aside0.mk (Kd.S_elder' (by (with_reducible repeat (first | apply Kd.S_alloc | apply Kd.S_drewN | apply Kd.S_drew)); exact (Kd.S_mono (Kd.S_far (p := ⟨gb590, 2, none⟩) (Kd.S_far (p := ⟨gb590, 1, none⟩) (Kd.S_far (p := ⟨gb590, 0, none⟩) (Kd.S_types HO566.out BK590.out (by decide)) (fun _ hk => hk.2) (.slice Ao46 t581.length co46)) (fun _ hk => hk.2) (.slice Ao50 t584.length co50)) (fun _ hk => hk.2) (.slice Ao51 t587.length co51)) (fun _ h_ => h_.1))) (Kd.R_base ho1) hb); replace HO569 := Aside0.mk (Kd.S_elder' (by (with_reducible repeat (first | apply Kd.S_alloc | apply Kd.S_drewN | apply Kd.S_drew)); exact (Kd.S_mono (Kd.S_far (p := ⟨gb590, 2, none⟩) (Kd.S_far (p := ⟨gb590, 1, none⟩) (Kd.S_far (p := ⟨gb590, 0, none⟩) (Kd.S_types HO569.out BK590.out (by decide)) (fun _ hk => hk.2) (.slice Ao46 t581.length co46)) (fun _ hk => hk.2) (.slice Ao50 t584.length co50)) (fun _ hk => hk.2) (.slice Ao51 t587.length co51)) (fun _ h_ => h_.1))) (Kd.R_base ho0) hb); replace HO572 := Aside0.mk (Kd.S_elder' (by (with_reducible repeat (first | apply Kd.S_alloc | apply Kd.S_drewN | apply Kd.S_drew)); exact (Kd.S_mono (Kd.S_far (p := ⟨gb590, 2, none⟩) (Kd.S_far (p := ⟨gb590, 1, none⟩) (Kd.S_far (p := ⟨gb590, 0, none⟩) (Kd.S_types HO572.out BK590.out (by decide)) (fun _ hk => hk.2) (.slice Ao46 t581.length co46)) (fun _ hk => hk.2) (.slice Ao50 t584.length co50)) (fun _ hk => hk.2) (.slice Ao51 t587.length co51)) (fun _ h_ => h_.1))) (Kd.R_base ho0) hb); replace HO575 := Aside0.mk (Kd.R_elder' (by (with_reducible repeat (first | apply Kd.R_alloc | apply Kd.R_drewN | apply Kd.R_drew)); exact (Kd.R_mono (Kd.R_far (p := ⟨gb590, 2, none⟩) (Kd.R_far (p := ⟨gb590, 1, none⟩) (Kd.R_far (p := ⟨gb590, 0, none⟩) (Kd.R_types HO575.out BK590.out (by decide)) (fun _ hk => hk.2) (.slice Ao46 t581.length co46)) (fun _ hk => hk.2) (.slice Ao50 t584.length co50)) (fun _ hk => hk.2) (.slice Ao51 t587.length co51)) (fun _ h_ => h_.1))) (Kd.R_base ho0) hb); replace HO578 := Aside0.mk (Kd.R_elder' (by (with_reducible repeat (first | apply Kd.R_alloc | apply Kd.R_drewN | apply Kd.R_drew)); exact (Kd.R_mono (Kd.R_far (p := ⟨gb590, 2, none⟩) (Kd.R_far (p := ⟨gb590, 1, none⟩) (Kd.R_far (p := ⟨gb590, 0, none⟩) (Kd.R_types HO578.out BK590.out (by decide)) (fun _ hk => hk.2) (.slice Ao46 t581.length co46)) (fun _ hk => hk.2) (.slice Ao50 t584.length co50)) (fun _ hk => hk.2) (.slice Ao51 t587.length co51)) (fun _ h_ => h_.1))) (Kd.R_base ho1) hb); replace HO583 := Aside0.mk (Kd.S_elder' (by (with_reducible repeat (first | apply Kd.S_alloc | apply Kd.S_drewN | apply Kd.S_drew)); exact (Kd.S_mono (Kd.S_far (p := ⟨gb590, 2, none⟩) (Kd.S_far (p := ⟨gb590, 1, none⟩) (Kd.S_far (p := ⟨gb590, 0, none⟩) (Kd.S_types HO583.out BK590.out (by decide)) (fun _ hk => hk.2) (.slice Ao46 t581.length co46)) (fun _ hk => hk.2) (.slice Ao50 t584.length co50)) (fun _ hk => hk.2) (.slice Ao51 t587.length co51)) (fun _ h_ => h_.1))) (Kd.R_base ho1) hb); replace HO586 := Aside0.mk (Kd.S_elder' (by (with_reducible repeat (first | apply Kd.S_alloc | apply Kd.S_drewN | apply Kd.S_drew)); exact (Kd.S_mono (Kd.S_far (p := ⟨gb590, 2, none⟩) (Kd.S_far (p := ⟨gb590, 1, none⟩) (Kd.S_far (p := ⟨gb590, 0, none⟩) (Kd.S_types HO586.out BK590.out (by decide)) (fun _ hk => hk.2) (.slice Ao46 t581.length co46)) (fun _ hk => hk.2) (.slice Ao50 t584.length co50)) (fun _ hk => hk.2) (.slice Ao51 t587.length co51)) (fun _ h_ => h_.1))) (Kd.R_base ho0) hb); replace HO589 := Aside0.mk (Kd.S_elder' (by (with_reducible repeat (first | apply Kd.S_alloc | apply Kd.S_drewN | apply Kd.S_drew)); exact (Kd.S_mono (Kd.S_far (p := ⟨gb590, 2, none⟩) (Kd.S_far (p := ⟨gb590, 1, none⟩) (Kd.S_far (p := ⟨gb590, 0, none⟩) (Kd.S_types HO589.out BK590.out (by decide)) (fun _ hk => hk.2) (.slice Ao46 t581.length co46)) (fun _ hk => hk.2) (.slice Ao50 t584.length co50)) (fun _ hk => hk.2) (.slice Ao51 t587.length co51)) (fun _ h_ => h_.1))) (Kd.R_base ho0) hb); replace BK560 := Aside0.mk (blk_below (g := gb560) (o := .cells #[.slice A0_0 l0_0.length c0_0, .slice A0_1 l0_1.length c0_1, .slice A0_2 l0_2.length c0_2] 26 (0, 0)) (by (with_reducible repeat (first | refine blk_drewN ?_ _ | refine blk_drew ?_ | refine blk_alloc ?_ _)); refine blk_far ?_ NB560_590.out _; (with_reducible repeat (first | refine blk_drewN ?_ _ | refine blk_drew ?_ | refine blk_alloc ?_ _)); refine blk_far ?_ NB560_590.out _; (with_reducible repeat (first | refine blk_drewN ?_ _ | refine blk_drew ?_ | refine blk_alloc ?_ _)); refine blk_far ?_ NB560_590.out _; (with_reducible repeat (first | refine blk_drewN ?_ _ | refine blk_drew ?_ | refine blk_alloc ?_ _)); exact BK560.out) hb); replace BK561 := Aside0.mk (blk_below (g := gb561) (o := .cells #[.slice A2_0 l2_0.length c2_0, .slice A2_1 l2_1.length c2_1] 30 (0, 0)) (by (with_reducible repeat (first | refine blk_drewN ?_ _ | refine blk_drew ?_ | refine blk_alloc ?_ _)); refine blk_far ?_ NB561_590.out _; (with_reducible repeat (first | refine blk_drewN ?_ _ | refine blk_drew ?_ | refine blk_alloc ?_ _)); refine blk_far ?_ NB561_590.out _; (with_reducible repeat (first | refine blk_drewN ?_ _ | refine blk_drew ?_ | refine blk_alloc ?_ _)); refine blk_far ?_ NB561_590.out _; (with_reducible repeat (first | refine blk_drewN ?_ _ | refine blk_drew ?_ | refine blk_alloc ?_ _)); exact BK561.out) hb); replace BK590 := Aside0.mk (blk_below (g := gb590) (o := .cells #[.slice Ao46 t581.length co46, .slice Ao50 t584.length co50, .slice Ao51 t587.length co51] 40 (0, 0)) (by (with_reducible repeat (first | refine blk_drewN ?_ _ | refine blk_drew ?_ | refine blk_alloc ?_ _)); refine blk_put (cs := #[.slice Ao46 t581.length co46, .slice Ao50 t584.length co50, .slice none 0 0]) ?_ 2 _ rfl; (with_reducible repeat (first | refine blk_drewN ?_ _ | refine blk_drew ?_ | refine blk_alloc ?_ _)); refine blk_put (cs := #[.slice Ao46 t581.length co46, .slice none 0 0, .slice none 0 0]) ?_ 1 _ rfl; (with_reducible repeat (first | refine blk_drewN ?_ _ | refine blk_drew ?_ | refine blk_alloc ?_ _)); refine blk_put (cs := #[.slice none 0 0, .slice none 0 0, .slice none 0 0]) ?_ 0 _ rfl; (with_reducible repeat (first | refine blk_drewN ?_ _ | refine blk_drew ?_ | refine blk_alloc ?_ _)); exact BK590.out) hb); replace HB := Hs_ HB hb; clear hb; (try clear ho0); (try clear ho1)) | (refine Bv_ 11 #[.slice none 0 0, .slice none 0 0] 42 ?_; intro gb597 hg w54 BK597 hb; have GW597 := Hg_ HB hg; have NB560_597 := Bl_ BK560 hg; have NB597_560 := Bm_ NB560_597; have NB561_597 := Bl_ BK561 hg; have NB597_561 := Bm_ NB561_597; have NB590_597 := Bl_ BK590 hg; have NB597_590 := Bm_ NB590_597; replace HO566 := Sb_ HO566 hb; replace HO569 := Sb_ HO569 hb; replace HO572 := Sb_ HO572 hb; replace HO575 := Rb_ HO575 hb; replace HO578 := Rb_ HO578 hb; replace HO583 := Sb_ HO583 hb; replace HO586 := Sb_ HO586 hb; replace HO589 := Sb_ HO589 hb; replace HO593 := Rb_ HO593 hb; replace HO596 := Rb_ HO596 hb; replace BK560 := Bb_ BK560 hb; replace BK561 := Bb_ BK561 hb; replace BK590 := Bb_ BK590 hb; replace HB := Hs_ HB hb; clear hb hg; obtain ⟨Ao55, co55, eo55⟩ := Kd.R_slice HO593.out; subst eo55; have hnb56 := NB597_560.out; have hnc56 := NB560_597.out; have hnb57 := NB597_561.out; have hnc57 := NB561_597.out; have hnb58 := NB597_590.out; have hnc58 := NB590_597.out; obtain ⟨hcz59_0, hcz59_1, hfz59_0, hfz59_1⟩ := Bc2_ BK597; obtain ⟨Ao60, co60, eo60⟩ := Kd.R_slice HO596.out; subst eo60; obtain ⟨hcz61_0, hcz61_1, hcz61_2, hfz61_0, hfz61_1, hfz61_2⟩ := Bc3_ BK590) | ((with_reducible refine gate_callee (f := 50) rfl ?_); refine goesL_ (some 41) rfl rfl Try.func50 (by kernel_rfl) rfl #[.agg #[.slice Ao46 t581.length co46, .slice Ao50 t584.length co50, .slice Ao51 t587.length co51], .int .i64 a1, .agg #[.slice Ao55 t591.length co55, .slice Ao60 t594.length co60]] rfl Mp_ ?_; (with_reducible refine (impl_ValueOf.calls k _ _ t581 _ _ t584 _ _ t587 a1 _ _ t591 _ _ t594 t598 t599 _ ?side1 ?side2 ?side3 ?side4 ?side5 ?side6 ?side7 ?side8 ?side9 ?side10 A25.out).mono ?_); (case side1 => refine (Kd.S_reads' (e := 77) (base := w.heap.size) (ok := fun k_ => (((True ∧ some k_ ≠ (.slice Ao37 t564.length co37 : Value).ownBlock) ∧ some k_ ≠ (.slice Ao41 t576.length co41 : Value).ownBlock) ∧ some k_ ≠ (.slice Ao60 t594.length co60 : Value).ownBlock)) (n := t581.length) (c := co46) ?_).2.2; exact (by (with_reducible repeat (first | apply Kd.S_alloc | apply Kd.S_drewN | apply Kd.S_drew)); exact (Kd.S_mono (Kd.S_far (p := ⟨gb597, 1, none⟩) (Kd.S_far (p := ⟨gb597, 0, none⟩) (Kd.S_types HO583.out BK597.out (by decide)) (fun _ hk => hk.2) (.slice Ao55 t591.length co55)) (fun _ hk => hk.2) (.slice Ao60 t594.length co60)) (fun _ h_ => h_.1)))); (case side2 => exact (Kd.S_reads' HO583.out).2.1); (case side3 => refine (Kd.S_reads' (e := 106) (base := w.heap.size) (ok := fun k_ => (((True ∧ some k_ ≠ (.slice Ao38 t567.length co38 : Value).ownBlock) ∧ some k_ ≠ (.slice Ao40 t573.length co40 : Value).ownBlock) ∧ some k_ ≠ (.slice Ao55 t591.length co55 : Value).ownBlock)) (n := t584.length) (c := co50) ?_).2.2; exact (by (with_reducible repeat (first | apply Kd.S_alloc | apply Kd.S_drewN | apply Kd.S_drew)); exact (Kd.S_mono (Kd.S_far (p := ⟨gb597, 1, none⟩) (Kd.S_far (p := ⟨gb597, 0, none⟩) (Kd.S_types HO586.out BK597.out (by decide)) (fun _ hk => hk.2) (.slice Ao55 t591.length co55)) (fun _ hk => hk.2) (.slice Ao60 t594.length co60)) (fun _ h_ => h_.1)))); (case side4 => exact (Kd.S_reads' HO586.out).2.1); (case side5 => refine (Kd.S_reads' (e := 103) (base := w.heap.size) (ok := fun k_ => (((True ∧ some k_ ≠ (.slice Ao39 t570.length co39 : Value).ownBlock) ∧ some k_ ≠ (.slice Ao40 t573.length co40 : Value).ownBlock) ∧ some k_ ≠ (.slice Ao55 t591.length co55 : Value).ownBlock)) (n := t587.length) (c := co51) ?_).2.2; exact (by (with_reducible repeat (first | apply Kd.S_alloc | apply Kd.S_drewN | apply Kd.S_drew)); exact (Kd.S_mono (Kd.S_far (p := ⟨gb597, 1, none⟩) (Kd.S_far (p := ⟨gb597, 0, none⟩) (Kd.S_types HO589.out BK597.out (by decide)) (fun _ hk => hk.2) (.slice Ao55 t591.length co55)) (fun _ hk => hk.2) (.slice Ao60 t594.length co60)) (fun _ h_ => h_.1)))); (case side6 => exact (Kd.S_reads' HO589.out).2.1); (case side7 => refine (Kd.R_reads' (e := 9) (base := w.heap.size) (ok := fun k_ => (True ∧ some k_ ≠ (.slice Ao40 t573.length co40 : Value).ownBlock)) (n := t591.length) (c := co55) ?_).2.2; exact (by (with_reducible repeat (first | apply Kd.R_alloc | apply Kd.R_drewN | apply Kd.R_drew)); exact (Kd.R_mono (Kd.R_far (p := ⟨gb597, 1, none⟩) (Kd.R_far (p := ⟨gb597, 0, none⟩) (Kd.R_types HO593.out BK597.out (by decide)) (fun _ hk => hk.2) (.slice Ao55 t591.length co55)) (fun _ hk => hk.2) (.slice Ao60 t594.length co60)) (fun _ h_ => h_.1)))); (case side8 => exact (Kd.R_reads' HO593.out).2.1); (case side9 => refine (Kd.R_reads' (e := 3) (base := w.heap.size) (ok := fun k_ => (True ∧ some k_ ≠ (.slice Ao41 t576.length co41 : Value).ownBlock)) (n := t594.length) (c := co60) ?_).2.2; exact (by (with_reducible repeat (first | apply Kd.R_alloc | apply Kd.R_drewN | apply Kd.R_drew)); exact (Kd.R_mono (Kd.R_far (p := ⟨gb597, 1, none⟩) (Kd.R_far (p := ⟨gb597, 0, none⟩) (Kd.R_types HO596.out BK597.out (by decide)) (fun _ hk => hk.2) (.slice Ao55 t591.length co55)) (fun _ hk => hk.2) (.slice Ao60 t594.length co60)) (fun _ h_ => h_.1)))); (case side10 => exact (Kd.R_reads' HO596.out).2.1); rintro e w62 ⟨rfl, hb⟩; refine ⟨_, rfl, ?_⟩; replace HO566 := Aside0.mk (Kd.S_below (by (with_reducible repeat (first | apply Kd.S_alloc | apply Kd.S_drewN | apply Kd.S_drew)); exact (Kd.S_mono (Kd.S_far (p := ⟨gb597, 1, none⟩) (Kd.S_far (p := ⟨gb597, 0, none⟩) (Kd.S_types HO566.out BK597.out (by decide)) (fun _ hk => hk.2) (.slice Ao55 t591.length co55)) (fun _ hk => hk.2) (.slice Ao60 t594.length co60)) (fun _ h_ => h_.1))) hb); replace HO569 := Aside0.mk (Kd.S_below (by (with_reducible repeat (first | apply Kd.S_alloc | apply Kd.S_drewN | apply Kd.S_drew)); exact (Kd.S_mono (Kd.S_far (p := ⟨gb597, 1, none⟩) (Kd.S_far (p := ⟨gb597, 0, none⟩) (Kd.S_types HO569.out BK597.out (by decide)) (fun _ hk => hk.2) (.slice Ao55 t591.length co55)) (fun _ hk => hk.2) (.slice Ao60 t594.length co60)) (fun _ h_ => h_.1))) hb); replace HO572 := Aside0.mk (Kd.S_below (by (with_reducible repeat (first | apply Kd.S_alloc | apply Kd.S_drewN | apply Kd.S_drew)); exact (Kd.S_mono (Kd.S_far (p := ⟨gb597, 1, none⟩) (Kd.S_far (p := ⟨gb597, 0, none⟩) (Kd.S_types HO572.out BK597.out (by decide)) (fun _ hk => hk.2) (.slice Ao55 t591.length co55)) (fun _ hk => hk.2) (.slice Ao60 t594.length co60)) (fun _ h_ => h_.1))) hb); replace HO575 := Aside0.mk (Kd.R_below (by (with_reducible repeat (first | apply Kd.R_alloc | apply Kd.R_drewN | apply Kd.R_drew)); exact (Kd.R_mono (Kd.R_far (p := ⟨gb597, 1, none⟩) (Kd.R_far (p := ⟨gb597, 0, none⟩) (Kd.R_types HO575.out BK597.out (by decide)) (fun _ hk => hk.2) (.slice Ao55 t591.length co55)) (fun _ hk => hk.2) (.slice Ao60 t594.length co60)) (fun _ h_ => h_.1))) hb); replace HO578 := Aside0.mk (Kd.R_below (by (with_reducible repeat (first | apply Kd.R_alloc | apply Kd.R_drewN | apply Kd.R_drew)); exact (Kd.R_mono (Kd.R_far (p := ⟨gb597, 1, none⟩) (Kd.R_far (p := ⟨gb597, 0, none⟩) (Kd.R_types HO578.out BK597.out (by decide)) (fun _ hk => hk.2) (.slice Ao55 t591.length co55)) (fun _ hk => hk.2) (.slice Ao60 t594.length co60)) (fun _ h_ => h_.1))) hb); replace HO583 := Aside0.mk (Kd.S_below (by (with_reducible repeat (first | apply Kd.S_alloc | apply Kd.S_drewN | apply Kd.S_drew)); exact (Kd.S_mono (Kd.S_far (p := ⟨gb597, 1, none⟩) (Kd.S_far (p := ⟨gb597, 0, none⟩) (Kd.S_types HO583.out BK597.out (by decide)) (fun _ hk => hk.2) (.slice Ao55 t591.length co55)) (fun _ hk => hk.2) (.slice Ao60 t594.length co60)) (fun _ h_ => h_.1))) hb); replace HO586 := Aside0.mk (Kd.S_below (by (with_reducible repeat (first | apply Kd.S_alloc | apply Kd.S_drewN | apply Kd.S_drew)); exact (Kd.S_mono (Kd.S_far (p := ⟨gb597, 1, none⟩) (Kd.S_far (p := ⟨gb597, 0, none⟩) (Kd.S_types HO586.out BK597.out (by decide)) (fun _ hk => hk.2) (.slice Ao55 t591.length co55)) (fun _ hk => hk.2) (.slice Ao60 t594.length co60)) (fun _ h_ => h_.1))) hb); replace HO589 := Aside0.mk (Kd.S_below (by (with_reducible repeat (first | apply Kd.S_alloc | apply Kd.S_drewN | apply Kd.S_drew)); exact (Kd.S_mono (Kd.S_far (p := ⟨gb597, 1, none⟩) (Kd.S_far (p := ⟨gb597, 0, none⟩) (Kd.S_types HO589.out BK597.out (by decide)) (fun _ hk => hk.2) (.slice Ao55 t591.length co55)) (fun _ hk => hk.2) (.slice Ao60 t594.length co60)) (fun _ h_ => h_.1))) hb); replace HO593 := Aside0.mk (Kd.R_below (by (with_reducible repeat (first | apply Kd.R_alloc | apply Kd.R_drewN | apply Kd.R_drew)); exact (Kd.R_mono (Kd.R_far (p := ⟨gb597, 1, none⟩) (Kd.R_far (p := ⟨gb597, 0, none⟩) (Kd.R_types HO593.out BK597.out (by decide)) (fun _ hk => hk.2) (.slice Ao55 t591.length co55)) (fun _ hk => hk.2) (.slice Ao60 t594.length co60)) (fun _ h_ => h_.1))) hb); replace HO596 := Aside0.mk (Kd.R_below (by (with_reducible repeat (first | apply Kd.R_alloc | apply Kd.R_drewN | apply Kd.R_drew)); exact (Kd.R_mono (Kd.R_far (p := ⟨gb597, 1, none⟩) (Kd.R_far (p := ⟨gb597, 0, none⟩) (Kd.R_types HO596.out BK597.out (by decide)) (fun _ hk => hk.2) (.slice Ao55 t591.length co55)) (fun _ hk => hk.2) (.slice Ao60 t594.length co60)) (fun _ h_ => h_.1))) hb); replace BK560 := Aside0.mk (blk_below (g := gb560) (o := .cells #[.slice A0_0 l0_0.length c0_0, .slice A0_1 l0_1.length c0_1, .slice A0_2 l0_2.length c0_2] 26 (0, 0)) (by (with_reducible repeat (first | refine blk_drewN ?_ _ | refine blk_drew ?_ | refine blk_alloc ?_ _)); refine blk_far ?_ NB560_597.out _; (with_reducible repeat (first | refine blk_drewN ?_ _ | refine blk_drew ?_ | refine blk_alloc ?_ _)); refine blk_far ?_ NB560_597.out _; (with_reducible repeat (first | refine blk_drewN ?_ _ | refine blk_drew ?_ | refine blk_alloc ?_ _)); exact BK560.out) hb); replace BK561 := Aside0.mk (blk_below (g := gb561) (o := .cells #[.slice A2_0 l2_0.length c2_0, .slice A2_1 l2_1.length c2_1] 30 (0, 0)) (by (with_reducible repeat (first | refine blk_drewN ?_ _ | refine blk_drew ?_ | refine blk_alloc ?_ _)); refine blk_far ?_ NB561_597.out _; (with_reducible repeat (first | refine blk_drewN ?_ _ | refine blk_drew ?_ | refine blk_alloc ?_ _)); refine blk_far ?_ NB561_597.out _; (with_reducible repeat (first | refine blk_drewN ?_ _ | refine blk_drew ?_ | refine blk_alloc ?_ _)); exact BK561.out) hb); replace BK590 := Aside0.mk (blk_below (g := gb590) (o := .cells #[.slice Ao46 t581.length co46, .slice Ao50 t584.length co50, .slice Ao51 t587.length co51] 40 (0, 0)) (by (with_reducible repeat (first | refine blk_drewN ?_ _ | refine blk_drew ?_ | refine blk_alloc ?_ _)); refine blk_far ?_ NB590_597.out _; (with_reducible repeat (first | refine blk_drewN ?_ _ | refine blk_drew ?_ | refine blk_alloc ?_ _)); refine blk_far ?_ NB590_597.out _; (with_reducible repeat (first | refine blk_drewN ?_ _ | refine blk_drew ?_ | refine blk_alloc ?_ _)); exact BK590.out) hb); replace BK597 := Aside0.mk (blk_below (g := gb597) (o := .cells #[.slice Ao55 t591.length co55, .slice Ao60 t594.length co60] 42 (0, 0)) (by (with_reducible repeat (first | refine blk_drewN ?_ _ | refine blk_drew ?_ | refine blk_alloc ?_ _)); refine blk_put (cs := #[.slice Ao55 t591.length co55, .slice none 0 0]) ?_ 1 _ rfl; (with_reducible repeat (first | refine blk_drewN ?_ _ | refine blk_drew ?_ | refine blk_alloc ?_ _)); refine blk_put (cs := #[.slice none 0 0, .slice none 0 0]) ?_ 0 _ rfl; (with_reducible repeat (first | refine blk_drewN ?_ _ | refine blk_drew ?_ | refine blk_alloc ?_ _)); exact BK597.out) hb); replace HB := Hs_ HB hb; clear hb))
   (try simp only [Act.put, List.setIfInBounds_toArray, List.set_cons_zero, List.set_cons_succ])
   go_cut [51] (fun v51 wc => ∃ (kq : Nat) (x51_25 : Bool), v51 = .bool x51_25 ∧ Aside0 (laws_FnExactValueOf.j0 kq x51_25 l0_0 l0_1 l0_2 l2_0 l2_1 t581 t584 t587 t591 t594 = some r) ∧ Aside0 (kq ≤ k) ∧ Aside0 (Kd.S k77 77 wc w.heap.size (fun k_ => some k_ ≠ ((.slice Ao60 t594.length co60) : Value).ownBlock) (.slice Ao46 t581.length co46) t581) ∧ Aside0 (Kd.S k106 106 wc w.heap.size (fun k_ => some k_ ≠ ((.slice Ao55 t591.length co55) : Value).ownBlock) (.slice Ao50 t584.length co50) t584) ∧ Aside0 (Kd.S k103 103 wc w.heap.size (fun k_ => some k_ ≠ ((.slice Ao55 t591.length co55) : Value).ownBlock) (.slice Ao51 t587.length co51) t587) ∧ Aside0 (Kd.R Kd.string 9 wc w.heap.size (fun _ => True) (.slice Ao55 t591.length co55) t591) ∧ Aside0 (Kd.R (Kd.int .i64) 3 wc w.heap.size (fun _ => True) (.slice Ao60 t594.length co60) t594) ∧ Aside0 (wc.heap[gb560]? = some (.cells #[(.slice A0_0 l0_0.length c0_0), (.slice A0_1 l0_1.length c0_1), (.slice A0_2 l0_2.length c0_2)] 26 (0, 0))) ∧ Aside0 (wc.heap[gb561]? = some (.cells #[(.slice A2_0 l2_0.length c2_0), (.slice A2_1 l2_1.length c2_1)] 30 (0, 0))) ∧ Aside0 (wc.heap[gb590]? = some (.cells #[(.slice Ao46 t581.length co46), (.slice Ao50 t584.length co50), (.slice Ao51 t587.length co51)] 40 (0, 0))) ∧ Aside0 (wc.heap[gb597]? = some (.cells #[(.slice Ao55 t591.length co55), (.slice Ao60 t594.length co60)] 42 (0, 0))) ∧ Aside0 (Below w.heap.size w wc))
   case first =>
    have H := HC26.out
    clear HC26
    by_cases c63 : t598 = t579
    ·rw [if_pos c63] at H
     have c63b0 := beq_iff_eq.mpr c63
     have c63b1 := bne_eq_false_iff_eq.mpr c63
     clear c63
     (first | rw [c63b0] | (simp only [i64_w, i32_w]; rw [c63b0]) | skip)
     have H' := Aside0.mk H
     clear H
     go_wp2
     go_meet
     case rel => exact ⟨_, ((t599 != t580)), Rr_, H', ⟨by first | omega | exact Nat.le_refl _⟩, ⟨by (with_reducible repeat (first | apply Kd.S_alloc | apply Kd.S_drewN | apply Kd.S_drew)); exact Kd.S_mono HO583.out (fun _ hk => hk.2)⟩, ⟨by (with_reducible repeat (first | apply Kd.S_alloc | apply Kd.S_drewN | apply Kd.S_drew)); exact Kd.S_mono HO586.out (fun _ hk => hk.2)⟩, ⟨by (with_reducible repeat (first | apply Kd.S_alloc | apply Kd.S_drewN | apply Kd.S_drew)); exact Kd.S_mono HO589.out (fun _ hk => hk.2)⟩, ⟨by (with_reducible repeat (first | apply Kd.R_alloc | apply Kd.R_drewN | apply Kd.R_drew)); exact Kd.R_mono HO593.out (fun _ hk => trivial)⟩, ⟨by (with_reducible repeat (first | apply Kd.R_alloc | apply Kd.R_drewN | apply Kd.R_drew)); exact Kd.R_mono HO596.out (fun _ hk => trivial)⟩, ⟨Bq_ BK560⟩, ⟨Bq_ BK561⟩, ⟨Bq_ BK590⟩, ⟨Bq_ BK597⟩, ⟨Hf_ HB⟩⟩
    ·rw [if_neg c63] at H
     have c63b0 := beq_eq_false_iff_ne.mpr c63
     have c63b1 := bne_iff_ne.mpr c63
     (first | rw [c63b0] | (simp only [i64_w, i32_w]; rw [c63b0]) | skip)
     have H' := Aside0.mk H
     clear H
     go_wp2
     go_meet
     case rel => exact ⟨_, (true), Rr_, H', ⟨by first | omega | exact Nat.le_refl _⟩, ⟨by (with_reducible repeat (first | apply Kd.S_alloc | apply Kd.S_drewN | apply Kd.S_drew)); exact Kd.S_mono HO583.out (fun _ hk => hk.2)⟩, ⟨by (with_reducible repeat (first | apply Kd.S_alloc | apply Kd.S_drewN | apply Kd.S_drew)); exact Kd.S_mono HO586.out (fun _ hk => hk.2)⟩, ⟨by (with_reducible repeat (first | apply Kd.S_alloc | apply Kd.S_drewN | apply Kd.S_drew)); exact Kd.S_mono HO589.out (fun _ hk => hk.2)⟩, ⟨by (with_reducible repeat (first | apply Kd.R_alloc | apply Kd.R_drewN | apply Kd.R_drew)); exact Kd.R_mono HO593.out (fun _ hk => trivial)⟩, ⟨by (with_reducible repeat (first | apply Kd.R_alloc | apply Kd.R_drewN | apply Kd.R_drew)); exact Kd.R_mono HO596.out (fun _ hk => trivial)⟩, ⟨Bq_ BK560⟩, ⟨Bq_ BK561⟩, ⟨Bq_ BK590⟩, ⟨Bq_ BK597⟩, ⟨Hf_ HB⟩⟩
   case rest =>
    clear HC26
    clear c5b0 c12b0 hcz30_0 hcz30_1 hcz30_2 hcz32_0 hcz32_1 hcz43_0 hcz43_1 hcz43_2 hcz49_0 hcz49_1 hcz49_2 hcz52_0 hcz52_1 hcz59_0 hcz59_1 hcz61_0 hcz61_1 hcz61_2 hfz30_0 hfz30_1 hfz30_2 hfz32_0 hfz32_1 hfz43_0 hfz43_1 hfz43_2 hfz49_0 hfz49_1 hfz49_2 hfz52_0 hfz52_1 hfz59_0 hfz59_1 hfz61_0 hfz61_1 hfz61_2
    obtain ⟨kq, x51_25, rfl, HA, HJ25, HO_591000, HO_591001, HO_591002, HO_598000, HO_598001, BK560, BK561, BK590, BK597, HB⟩ := hcut
    cases kq with
    | zero => exact absurd HA.out (by simp [laws_FnExactValueOf.j0])
    | succ kj25 =>
     have H := HA.out
     clear HA
     simp only [laws_FnExactValueOf.j0] at H
     by_cases c64 : x51_25 = true
     ·subst c64
      rw [if_pos rfl] at H
      exact absurd (Option.some.inj H) (by rw [hlaw_.out]; decide)
     ·replace c64 := Bool.eq_false_iff.mpr c64
      subst c64
      rw [if_neg Ff_] at H
      obtain ⟨⟨t600, t603, t606⟩, A65, H⟩ := Bo_ H
      try dsimp only at H
      obtain ⟨t609, A66, H⟩ := Bo_ H
      by_cases c67 : t609 = true
      ·subst c67
       rw [if_pos rfl] at H
       obtain ⟨⟨t610, t613⟩, A68, H⟩ := Bo_ H
       try dsimp only at H
       obtain ⟨t616, A69, H⟩ := Bo_ H
       by_cases c70 : t616 = true
       ·subst c70
        rw [if_pos rfl] at H
        obtain rfl := Option.some.inj H
        try go_wp2
        replace HO_591000 := Aside0.mk (Kd.S_drew HO_591000.out); replace HO_591001 := Aside0.mk (Kd.S_drew HO_591001.out); replace HO_591002 := Aside0.mk (Kd.S_drew HO_591002.out); replace HO_598000 := Aside0.mk (Kd.R_drew HO_598000.out); replace HO_598001 := Aside0.mk (Kd.R_drew HO_598001.out); replace BK560 := Aside0.mk (blk_drew BK560.out); replace BK561 := Aside0.mk (blk_drew BK561.out); replace BK590 := Aside0.mk (blk_drew BK590.out); replace BK597 := Aside0.mk (blk_drew BK597.out); replace HB := Aside0.mk (below_drew1 HB.out)
        refine start_ (n := 5) (S := fun w' => w'.cell? ⟨gb590, 0, none⟩ = some (.slice Ao46 t581.length co46) ∧ w'.cell? ⟨gb590, 1, none⟩ = some (.slice Ao50 t584.length co50) ∧ w'.cell? ⟨gb590, 2, none⟩ = some (.slice Ao51 t587.length co51) ∧ w'.cell? ⟨gb560, 0, none⟩ = some (.slice A0_0 l0_0.length c0_0) ∧ w'.cell? ⟨gb560, 1, none⟩ = some (.slice A0_1 l0_1.length c0_1) ∧ w'.cell? ⟨gb560, 2, none⟩ = some (.slice A0_2 l0_2.length c0_2)) (ds := []) #[false, false, false, false, false] (by kernel_rfl) rfl rfl ⟨(blk_cell BK590.out 0).trans rfl, (blk_cell BK590.out 1).trans rfl, (blk_cell BK590.out 2).trans rfl, (blk_cell BK560.out 0).trans rfl, (blk_cell BK560.out 1).trans rfl, (blk_cell BK560.out 2).trans rfl⟩ (fun hHeld => ?_)
        generalize wc.drew = w71 at HO_591000 HO_591001 HO_591002 HO_598000 HO_598001 BK560 BK561 BK590 BK597 HB hHeld ⊢
        refine take_ (i := 0) (N := some 52) (v := ?_) (a' := ?_) #[true, false, false, false, false] rfl rfl (by kernel_rfl) (fun _ _ _ h => h) (Or.inl ⟨by rfl, ?_⟩) hHeld ?_ ?_
        rotate_left
        ·rintro w' ⟨s0, s1, s2, s3, s4, s5⟩
         go_simp
         with_reducible rfl
        rotate_left
        ·simp only [Act.put, List.setIfInBounds_toArray, List.set_cons_zero, List.set_cons_succ, i64_w, i32_w]
         rfl
        refine take_ (i := 1) (N := some 53) (v := ?_) (a' := ?_) #[true, true, false, false, false] rfl rfl (by kernel_rfl) (fun _ _ _ h => h) (Or.inl ⟨by rfl, ?_⟩) hHeld ?_ ?_
        rotate_left
        ·rintro w' ⟨s0, s1, s2, s3, s4, s5⟩
         go_simp
         with_reducible rfl
        rotate_left
        ·simp only [Act.put, List.setIfInBounds_toArray, List.set_cons_zero, List.set_cons_succ, i64_w, i32_w]
         rfl
        refine one_ (i := 2) (N := some 54) #[true, true, true, false, false] rfl rfl (by kernel_rfl) (by decide) (fun K hK => ?_)
        refine Gs_ Try.func16 ((laws_toProgram.calls kj25 _ _ l0_0 _ _ l0_1 _ _ l0_2 t600 t603 t606 _ (Sc_ HR0_0 HB) HC0_0.out (Sc_ HR0_1 HB) HC0_1.out (Sc_ HR0_2 HB) HC0_2.out A65.out).mono ?_)
        rintro e w72 ⟨v601, v604, v607, rfl, ho0, ho1, ho2, hb⟩
        refine ⟨_, rfl, ?_⟩
        have HO602 := Aside0.mk (Kd.S_lower (Kd.S_new' (Kd.S_new' ho0 (Kd.S_lt (by (with_reducible repeat (first | apply Kd.S_alloc | apply Kd.S_drewN | apply Kd.S_drew)); exact HO_591000.out))) (Kd.R_lt (Rq_ HO_598001))) (below_size (Hf_ HB))); have HO605 := Aside0.mk (Kd.S_lower (Kd.S_new' (Kd.S_new' ho1 (Kd.S_lt (by (with_reducible repeat (first | apply Kd.S_alloc | apply Kd.S_drewN | apply Kd.S_drew)); exact HO_591001.out))) (Kd.R_lt (Rq_ HO_598000))) (below_size (Hf_ HB))); have HO608 := Aside0.mk (Kd.S_lower (Kd.S_new' (Kd.S_new' ho2 (Kd.S_lt (by (with_reducible repeat (first | apply Kd.S_alloc | apply Kd.S_drewN | apply Kd.S_drew)); exact HO_591002.out))) (Kd.R_lt (Rq_ HO_598000))) (below_size (Hf_ HB))); replace HO_591000 := Aside0.mk (Kd.S_elder' (by (with_reducible repeat (first | apply Kd.S_alloc | apply Kd.S_drewN | apply Kd.S_drew)); exact HO_591000.out) (Kd.S_base ho0) hb); replace HO_591001 := Aside0.mk (Kd.S_elder' (by (with_reducible repeat (first | apply Kd.S_alloc | apply Kd.S_drewN | apply Kd.S_drew)); exact HO_591001.out) (Kd.S_base ho1) hb); replace HO_591002 := Aside0.mk (Kd.S_elder' (by (with_reducible repeat (first | apply Kd.S_alloc | apply Kd.S_drewN | apply Kd.S_drew)); exact HO_591002.out) (Kd.S_base ho2) hb); replace HO_598000 := Rb_ HO_598000 hb; replace HO_598001 := Rb_ HO_598001 hb; replace BK560 := Bb_ BK560 hb; replace BK561 := Bb_ BK561 hb; replace BK590 := Bb_ BK590 hb; replace BK597 := Bb_ BK597 hb; replace HB := Hs_ HB hb
        clear hb
        (try clear ho0)
        (try clear ho1)
        (try clear ho2)
        obtain ⟨Ao73, co73, eo73⟩ := Kd.S_slice HO602.out
        (first | subst eo73 | (injection eo73 with f1_ f2_ f3_; have f4_ := f1_.symm; have f5_ := f3_.symm; clear f1_ f2_ f3_; subst f4_; subst f5_))
        obtain ⟨Ao74, co74, eo74⟩ := Kd.S_slice HO605.out
        (first | subst eo74 | (injection eo74 with f1_ f2_ f3_; have f4_ := f1_.symm; have f5_ := f3_.symm; clear f1_ f2_ f3_; subst f4_; subst f5_))
        obtain ⟨Ao75, co75, eo75⟩ := Kd.S_slice HO608.out
        (first | subst eo75 | (injection eo75 with f1_ f2_ f3_; have f4_ := f1_.symm; have f5_ := f3_.symm; clear f1_ f2_ f3_; subst f4_; subst f5_))
        refine hK.out _ _ ⟨(blk_cell BK590.out 0).trans rfl, (blk_cell BK590.out 1).trans rfl, (blk_cell BK590.out 2).trans rfl, (blk_cell BK560.out 0).trans rfl, (blk_cell BK560.out 1).trans rfl, (blk_cell BK560.out 2).trans rfl⟩ (fun hHeld => ?_)
        clear hK K
        refine No_ (some 54) ?_
        refine one_ (i := 3) (N := some 55) #[true, true, true, true, false] rfl rfl (by kernel_rfl) (by decide) (fun K hK => ?_)
        refine Gs_ Try.func19 ((laws_eqProgram.calls kj25 _ _ t581 _ _ t584 _ _ t587 _ _ t600 _ _ t603 _ _ t606 true _ (Cq_ (Kd.S_reads' HO_591000.out).2.2) ((Kd.S_reads' HO_591000.out).2.1) (Cq_ (Kd.S_reads' HO_591001.out).2.2) ((Kd.S_reads' HO_591001.out).2.1) (Cq_ (Kd.S_reads' HO_591002.out).2.2) ((Kd.S_reads' HO_591002.out).2.1) (Cq_ (Kd.S_reads' HO602.out).2.2) ((Kd.S_reads' HO602.out).2.1) (Cq_ (Kd.S_reads' HO605.out).2.2) ((Kd.S_reads' HO605.out).2.1) (Cq_ (Kd.S_reads' HO608.out).2.2) ((Kd.S_reads' HO608.out).2.1) A66.out).mono ?_)
        rintro e w76 ⟨rfl, hb⟩
        refine ⟨_, rfl, ?_⟩
        replace HO_591000 := Sb_ HO_591000 hb; replace HO_591001 := Sb_ HO_591001 hb; replace HO_591002 := Sb_ HO_591002 hb; replace HO_598000 := Rb_ HO_598000 hb; replace HO_598001 := Rb_ HO_598001 hb; replace HO602 := Sb_ HO602 hb; replace HO605 := Sb_ HO605 hb; replace HO608 := Sb_ HO608 hb; replace BK560 := Bb_ BK560 hb; replace BK561 := Bb_ BK561 hb; replace BK590 := Bb_ BK590 hb; replace BK597 := Bb_ BK597 hb; replace HB := Hs_ HB hb
        clear hb
        refine hK.out _ _ ⟨(blk_cell BK590.out 0).trans rfl, (blk_cell BK590.out 1).trans rfl, (blk_cell BK590.out 2).trans rfl, (blk_cell BK560.out 0).trans rfl, (blk_cell BK560.out 1).trans rfl, (blk_cell BK560.out 2).trans rfl⟩ (fun hHeld => ?_)
        clear hK K
        refine No_ (some 55) ?_
        refine pure_ (i := 4) (N := some 56) (v := ?_) (a' := ?_) #[true, true, true, true, true] rfl rfl (by kernel_rfl) (fun _ _ _ h => h) (Or.inl ⟨by rfl, ?_⟩) ?_ ?_
        rotate_left
        ·intro w'
         go_simp
         with_reducible rfl
        rotate_left
        ·simp only [Act.put, List.setIfInBounds_toArray, List.set_cons_zero, List.set_cons_succ, i64_w, i32_w]
         rfl
        refine done_ (by kernel_rfl) ?_
        try go_wp2
        replace HO_591000 := Aside0.mk (Kd.S_drew HO_591000.out); replace HO_591001 := Aside0.mk (Kd.S_drew HO_591001.out); replace HO_591002 := Aside0.mk (Kd.S_drew HO_591002.out); replace HO_598000 := Aside0.mk (Kd.R_drew HO_598000.out); replace HO_598001 := Aside0.mk (Kd.R_drew HO_598001.out); replace HO602 := Aside0.mk (Kd.S_drew HO602.out); replace HO605 := Aside0.mk (Kd.S_drew HO605.out); replace HO608 := Aside0.mk (Kd.S_drew HO608.out); replace BK560 := Aside0.mk (blk_drew BK560.out); replace BK561 := Aside0.mk (blk_drew BK561.out); replace BK590 := Aside0.mk (blk_drew BK590.out); replace BK597 := Aside0.mk (blk_drew BK597.out); replace HB := Aside0.mk (below_drew1 HB.out)
        refine start_ (n := 5) (S := fun w' => w'.cell? ⟨gb597, 0, none⟩ = some (.slice Ao55 t591.length co55) ∧ w'.cell? ⟨gb597, 1, none⟩ = some (.slice Ao60 t594.length co60) ∧ w'.cell? ⟨gb561, 0, none⟩ = some (.slice A2_0 l2_0.length c2_0) ∧ w'.cell? ⟨gb561, 1, none⟩ = some (.slice A2_1 l2_1.length c2_1)) (ds := []) #[false, false, false, false, false] (by kernel_rfl) rfl rfl ⟨(blk_cell BK597.out 0).trans rfl, (blk_cell BK597.out 1).trans rfl, (blk_cell BK561.out 0).trans rfl, (blk_cell BK561.out 1).trans rfl⟩ (fun hHeld => ?_)
        generalize w76.drew = w77 at HO_591000 HO_591001 HO_591002 HO_598000 HO_598001 HO602 HO605 HO608 BK560 BK561 BK590 BK597 HB hHeld ⊢
        refine take_ (i := 0) (N := some 57) (v := ?_) (a' := ?_) #[true, false, false, false, false] rfl rfl (by kernel_rfl) (fun _ _ _ h => h) (Or.inl ⟨by rfl, ?_⟩) hHeld ?_ ?_
        rotate_left
        ·rintro w' ⟨s0, s1, s2, s3⟩
         go_simp
         with_reducible rfl
        rotate_left
        ·simp only [Act.put, List.setIfInBounds_toArray, List.set_cons_zero, List.set_cons_succ, i64_w, i32_w]
         rfl
        refine take_ (i := 1) (N := some 58) (v := ?_) (a' := ?_) #[true, true, false, false, false] rfl rfl (by kernel_rfl) (fun _ _ _ h => h) (Or.inl ⟨by rfl, ?_⟩) hHeld ?_ ?_
        rotate_left
        ·rintro w' ⟨s0, s1, s2, s3⟩
         go_simp
         with_reducible rfl
        rotate_left
        ·simp only [Act.put, List.setIfInBounds_toArray, List.set_cons_zero, List.set_cons_succ, i64_w, i32_w]
         rfl
        refine one_ (i := 2) (N := some 59) #[true, true, true, false, false] rfl rfl (by kernel_rfl) (by decide) (fun K hK => ?_)
        refine Gs_ Try.func49 ((laws_toEnv.calls kj25 _ _ l2_0 _ _ l2_1 t610 t613 _ (Sc_ HR2_0 HB) HC2_0.out (Sc_ HR2_1 HB) HC2_1.out A68.out).mono ?_)
        rintro e w78 ⟨v611, v614, rfl, ho0, ho1, hb⟩
        refine ⟨_, rfl, ?_⟩
        have HO612 := Aside0.mk (Kd.R_lower (Kd.R_new' ho0 (Kd.R_lt (Rq_ HO_598000))) (below_size (Hf_ HB))); have HO615 := Aside0.mk (Kd.R_lower (Kd.R_new' ho1 (Kd.R_lt (Rq_ HO_598001))) (below_size (Hf_ HB))); replace HO_591000 := Aside0.mk (Kd.S_elder' (by (with_reducible repeat (first | apply Kd.S_alloc | apply Kd.S_drewN | apply Kd.S_drew)); exact HO_591000.out) (Kd.R_base ho1) hb); replace HO_591001 := Aside0.mk (Kd.S_elder' (by (with_reducible repeat (first | apply Kd.S_alloc | apply Kd.S_drewN | apply Kd.S_drew)); exact HO_591001.out) (Kd.R_base ho0) hb); replace HO_591002 := Aside0.mk (Kd.S_elder' (by (with_reducible repeat (first | apply Kd.S_alloc | apply Kd.S_drewN | apply Kd.S_drew)); exact HO_591002.out) (Kd.R_base ho0) hb); replace HO_598000 := Rl_ HO_598000 ho0 hb; replace HO_598001 := Rl_ HO_598001 ho1 hb; replace HO602 := Aside0.mk (Kd.S_elder' (by (with_reducible repeat (first | apply Kd.S_alloc | apply Kd.S_drewN | apply Kd.S_drew)); exact HO602.out) (Kd.R_base ho1) hb); replace HO605 := Aside0.mk (Kd.S_elder' (by (with_reducible repeat (first | apply Kd.S_alloc | apply Kd.S_drewN | apply Kd.S_drew)); exact HO605.out) (Kd.R_base ho0) hb); replace HO608 := Aside0.mk (Kd.S_elder' (by (with_reducible repeat (first | apply Kd.S_alloc | apply Kd.S_drewN | apply Kd.S_drew)); exact HO608.out) (Kd.R_base ho0) hb); replace BK560 := Bb_ BK560 hb; replace BK561 := Bb_ BK561 hb; replace BK590 := Bb_ BK590 hb; replace BK597 := Bb_ BK597 hb; replace HB := Hs_ HB hb
        clear hb
        (try clear ho0)
        (try clear ho1)
        obtain ⟨Ao79, co79, eo79⟩ := Kd.R_slice HO612.out
        (first | subst eo79 | (injection eo79 with f1_ f2_ f3_; have f4_ := f1_.symm; have f5_ := f3_.symm; clear f1_ f2_ f3_; subst f4_; subst f5_))
        obtain ⟨Ao80, co80, eo80⟩ := Kd.R_slice HO615.out
        (first | subst eo80 | (injection eo80 with f1_ f2_ f3_; have f4_ := f1_.symm; have f5_ := f3_.symm; clear f1_ f2_ f3_; subst f4_; subst f5_))
        refine hK.out _ _ ⟨(blk_cell BK597.out 0).trans rfl, (blk_cell BK597.out 1).trans rfl, (blk_cell BK561.out 0).trans rfl, (blk_cell BK561.out 1).trans rfl⟩ (fun hHeld => ?_)
        clear hK K
        refine No_ (some 59) ?_
        refine one_ (i := 3) (N := some 60) #[true, true, true, true, false] rfl rfl (by kernel_rfl) (by decide) (fun K hK => ?_)
        refine Gs_ Try.func51 ((laws_eqEnv.calls kj25 _ _ t591 _ _ t594 _ _ t610 _ _ t613 true _ (Cq_ (Kd.R_reads' HO_598000.out).2.2) ((Kd.R_reads' HO_598000.out).2.1) (Cq_ (Kd.R_reads' HO_598001.out).2.2) ((Kd.R_reads' HO_598001.out).2.1) (Cq_ (Kd.R_reads' HO612.out).2.2) ((Kd.R_reads' HO612.out).2.1) (Cq_ (Kd.R_reads' HO615.out).2.2) ((Kd.R_reads' HO615.out).2.1) A69.out).mono ?_)
        rintro e w81 ⟨rfl, hb⟩
        refine ⟨_, rfl, ?_⟩
        replace HO_591000 := Sb_ HO_591000 hb; replace HO_591001 := Sb_ HO_591001 hb; replace HO_591002 := Sb_ HO_591002 hb; replace HO_598000 := Rb_ HO_598000 hb; replace HO_598001 := Rb_ HO_598001 hb; replace HO602 := Sb_ HO602 hb; replace HO605 := Sb_ HO605 hb; replace HO608 := Sb_ HO608 hb; replace HO612 := Rb_ HO612 hb; replace HO615 := Rb_ HO615 hb; replace BK560 := Bb_ BK560 hb; replace BK561 := Bb_ BK561 hb; replace BK590 := Bb_ BK590 hb; replace BK597 := Bb_ BK597 hb; replace HB := Hs_ HB hb
        clear hb
        refine hK.out _ _ ⟨(blk_cell BK597.out 0).trans rfl, (blk_cell BK597.out 1).trans rfl, (blk_cell BK561.out 0).trans rfl, (blk_cell BK561.out 1).trans rfl⟩ (fun hHeld => ?_)
        clear hK K
        refine No_ (some 60) ?_
        refine pure_ (i := 4) (N := some 61) (v := ?_) (a' := ?_) #[true, true, true, true, true] rfl rfl (by kernel_rfl) (fun _ _ _ h => h) (Or.inl ⟨by rfl, ?_⟩) ?_ ?_
        rotate_left
        ·intro w'
         go_simp
         with_reducible rfl
        rotate_left
        ·simp only [Act.put, List.setIfInBounds_toArray, List.set_cons_zero, List.set_cons_succ, i64_w, i32_w]
         rfl
        refine done_ (by kernel_rfl) ?_
        try go_wp2
        go_ret
        exact ⟨Re_, Hf_ HB⟩
       ·replace c70 := Bool.eq_false_iff.mpr c70
        subst c70
        rw [if_neg Ff_] at H
        exact absurd (Option.some.inj H) (by rw [hlaw_.out]; decide)
      ·replace c67 := Bool.eq_false_iff.mpr c67
       subst c67
       rw [if_neg Ff_] at H
       exact absurd (Option.some.inj H) (by rw [hlaw_.out]; decide)

end Go.Proofs.Ytmbkcbgbienjoaa.PFnExactValueOf
