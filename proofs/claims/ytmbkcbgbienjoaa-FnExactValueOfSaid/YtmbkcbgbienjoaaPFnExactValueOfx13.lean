/- The machine side of the law FnExactValueOf: for each function that it reaches, a Lean function and its contract. Written by a program of this session's over the kit's print. No condition. -/
import Derived.Test.YtmbkcbgbienjoaaCmq
import Derived.Test.YtmbkcbgbienjoaaPFnExactValueOfx0
import Derived.Test.YtmbkcbgbienjoaaPFnExactValueOfx7
namespace Go.Proofs.Ytmbkcbgbienjoaa.PFnExactValueOf
open Go.RowKit Go.Proofs.YtmbkcbgbienjoaaW.PrintWords Go.Proofs.YtmbkcbgbienjoaaW.PrintLast Go.Proofs.YtmbkcbgbienjoaaW.PrintMore Go.Proofs.Ytmbkcbgbienjoaa.Cmp
attribute [local go_sem] max2_int min2_int max_two min_two max_three min_three max_four min_four   -- for this text's walks alone
set_option linter.unusedVariables false
set_option maxHeartbeats 8000000
set_option maxRecDepth 100000
set_option linter.unusedSimpArgs false

/-! ### spec_GetIn: function 135 -/
mutual
def spec_GetIn.l0 : Nat → ByteArray → Int → List ByteArray → List Int → Option (Int)
 | 0, _, _, _, _ => none
 | k + 1, x1, x5, x360000, x360001 => if x5 < (x360000.length : Int) then (spec_GetIn.j1 k x1 x5 (decide (x5 < (x360001.length : Int))) x360000 x360001) else (spec_GetIn.j1 k x1 x5 false x360000 x360001)
def spec_GetIn.j1 : Nat → ByteArray → Int → Bool → List ByteArray → List Int → Option (Int)
 | 0, _, _, _, _, _ => none
 | k + 1, x1, x5, x17, x360000, x360001 => if x17 = true then (if 0 ≤ x5 then (if x5 < (x360000.length : Int) then (if (rdOf ByteArray.empty x360000 x5).toList = x1.toList then (if x5 < (x360001.length : Int) then (some (rd x360001 x5)) else (none)) else (spec_GetIn.l0 k x1 (wrap64 (x5 + 1)) x360000 x360001)) else (none)) else (none)) else (some 0)
end
def spec_GetIn.f (k : Nat) (l0_0 : List ByteArray) (l0_1 : List Int) (a1 : ByteArray) : Option (Int) := spec_GetIn.l0 k a1 0 l0_0 l0_1
theorem spec_GetIn.calls (k : Nat) (A0_0 : Option Addr) (c0_0 : Nat) (l0_0 : List ByteArray) (A0_1 : Option Addr) (c0_1 : Nat) (l0_1 : List Int) (a1 : ByteArray) (r : Int) (w : World) (hr0_0 : Kd.C Kd.string w A0_0 l0_0.length l0_0) (hc0_0 : l0_0.length ≤ c0_0) (hr0_1 : Kd.C (Kd.int .i64) w A0_1 l0_1.length l0_1) (hc0_1 : l0_1.length ≤ c0_1) (h : spec_GetIn.f k l0_0 l0_1 a1 = some r) :
  Calls Try.prog 135 #[.agg #[.slice A0_0 l0_0.length c0_0, .slice A0_1 l0_1.length c0_1], .string a1] w fun e w' => e = .returned (.int .i64 r) ∧ Below w.heap.size w w' := by
 have hu42 := Try.underlying42
 have HR0_0 := Aside0.mk hr0_0
 have HC0_0 := Aside0.mk hc0_0
 clear hr0_0 hc0_0
 have HR0_1 := Aside0.mk hr0_1
 have HC0_1 := Aside0.mk hc0_1
 clear hr0_1 hc0_1
 have HB := Aside0.mk (Below.refl w.heap.size w)
 have H : (spec_GetIn.l0 k a1 0 l0_0 l0_1) = some r := h
 clear h
 have H' := Aside0.mk H
 clear H
 go_enter Try.func135, Try.ntmps135
 go_wp2_with (first | ((with_reducible refine gate_dst (N := 2) rfl ?_); (try (refine gate_guard (by rfl) ?_; dsimp only)); refine box_event ?hg (N := 2) ?hd (cs := #[.slice A0_0 l0_0.length c0_0, .slice A0_1 l0_1.length c0_1]) (t := 42) ?hr ?_; (case hd => rfl); (case hg => rfl); (case hr => first | (go_simp; done) | (go_simp; rfl)); intro gb359 hg w3 hbox hb; have BK359 := Aside0.mk (hbox); have GW359 := Hg_ HB hg; replace HB := Hs_ HB hb; clear hb hg))
 go_loopg [5] k (fun kq v5 w' => ∃ (x5_1 : Int), v5 = .int .i64 x5_1 ∧ Aside0 (spec_GetIn.l0 kq a1 x5_1 l0_0 l0_1 = some r) ∧ Aside0 (kq ≤ k) ∧ Aside0 (w'.heap[gb359]? = some (.cells #[(.slice A0_0 l0_0.length c0_0), (.slice A0_1 l0_1.length c0_1)] 42 (0, 0))) ∧ Aside0 (Below w.heap.size w w'))
 case atStart => exact ⟨(0), Rr_, H', ⟨Nat.le_refl _⟩, ⟨Bq_ BK359⟩, ⟨Hf_ HB⟩⟩
 case round =>
  clear H'
  obtain ⟨x5_1, rfl, HA, HK1, BK359, HB⟩ := hrel
  cases gk with
  | zero => exact absurd HA.out (by simp [spec_GetIn.l0])
  | succ k1 =>
   have H := HA.out
   clear HA
   simp only [spec_GetIn.l0] at H
   have HC4 := Aside0.mk H
   clear H
   go_upto_region 2 with (fail)
   go_cut [17] (fun v17 wc => ∃ (kq : Nat) (x17_3 : Bool), v17 = .bool x17_3 ∧ Aside0 (spec_GetIn.j1 kq a1 x5_1 x17_3 l0_0 l0_1 = some r) ∧ Aside0 (kq ≤ k1) ∧ Aside0 (wc.heap[gb359]? = some (.cells #[(.slice A0_0 l0_0.length c0_0), (.slice A0_1 l0_1.length c0_1)] 42 (0, 0))) ∧ Aside0 (Below w.heap.size w wc))
   case first =>
    have H := HC4.out
    clear HC4
    by_cases c5 : x5_1 < (l0_0.length : Int)
    ·rw [if_pos c5] at H
     have c5b0 := decide_eq_true c5
     clear c5
     (first | rw [c5b0] | (simp only [i64_w, i32_w]; rw [c5b0]) | skip)
     have H' := Aside0.mk H
     clear H
     obtain ⟨hcz6_0, hcz6_1, hfz6_0, hfz6_1⟩ := Bc2_ BK359
     go_wp2
     go_meet
     case rel => exact ⟨_, (decide (x5_1 < (l0_1.length : Int))), Rr_, H', ⟨by have := HK1.out; first | omega | exact Nat.le_refl _⟩, ⟨Bq_ BK359⟩, ⟨Hf_ HB⟩⟩
    ·rw [if_neg c5] at H
     have c5b0 := decide_eq_false c5
     clear c5
     (first | rw [c5b0] | (simp only [i64_w, i32_w]; rw [c5b0]) | skip)
     have H' := Aside0.mk H
     clear H
     obtain ⟨hcz7_0, hcz7_1, hfz7_0, hfz7_1⟩ := Bc2_ BK359
     go_wp2
     go_meet
     case rel => exact ⟨_, (false), Rr_, H', ⟨by have := HK1.out; first | omega | exact Nat.le_refl _⟩, ⟨Bq_ BK359⟩, ⟨Hf_ HB⟩⟩
   case rest =>
    clear HC4
    obtain ⟨kq, x17_3, rfl, HA, HJ3, BK359, HB⟩ := hcut
    cases kq with
    | zero => exact absurd HA.out (by simp [spec_GetIn.j1])
    | succ kj3 =>
     have H := HA.out
     clear HA
     simp only [spec_GetIn.j1] at H
     by_cases c8 : x17_3 = true
     ·subst c8
      rw [if_pos rfl] at H
      by_cases c9 : 0 ≤ x5_1
      ·rw [if_pos c9] at H
       have c9b0 := decide_eq_true c9
       clear c9
       by_cases c10 : x5_1 < (l0_0.length : Int)
       ·rw [if_pos c10] at H
        have c10b0 := decide_eq_true c10
        clear c10
        by_cases c11 : (rdOf ByteArray.empty l0_0 x5_1).toList = a1.toList
        ·rw [if_pos c11] at H
         have c11b0 := beq_iff_eq.mpr c11
         have c11b1 := bne_eq_false_iff_eq.mpr c11
         clear c11
         by_cases c12 : x5_1 < (l0_1.length : Int)
         ·rw [if_pos c12] at H
          have c12b0 := decide_eq_true c12
          clear c12
          obtain rfl := Option.some.inj H
          obtain ⟨hcz13_0, hcz13_1, hfz13_0, hfz13_1⟩ := Bc2_ BK359
          have p360 : 0 ≤ (x5_1 : Int) := of_decide_eq_true As_
          have q360 : x5_1 < (l0_0.length : Int) := of_decide_eq_true As_
          obtain ⟨ad360, e360, hx360_0⟩ := Kd.at_string HR0_0.out x5_1 p360 q360
          cases e360
          replace hx360_0 := Bw_ hx360_0 HB
          replace p360 := eq_true p360
          replace q360 := eq_true q360
          have p361 : 0 ≤ (x5_1 : Int) := of_decide_eq_true As_
          have q361 : x5_1 < (l0_1.length : Int) := of_decide_eq_true As_
          obtain ⟨ad361, e361, hx361_0⟩ := Kd.at_int HR0_1.out x5_1 p361 q361
          cases e361
          replace hx361_0 := Bw_ hx361_0 HB
          replace p361 := eq_true p361
          replace q361 := eq_true q361
          go_wp2
          go_ret
          exact ⟨Re_, Hf_ HB⟩
         ·rw [if_neg c12] at H
          exact absurd H (by simp)
        ·rw [if_neg c11] at H
         have c11b0 := beq_eq_false_iff_ne.mpr c11
         have c11b1 := bne_iff_ne.mpr c11
         have H' := Aside0.mk H
         clear H
         obtain ⟨hcz14_0, hcz14_1, hfz14_0, hfz14_1⟩ := Bc2_ BK359
         have p360 : 0 ≤ (x5_1 : Int) := of_decide_eq_true As_
         have q360 : x5_1 < (l0_0.length : Int) := of_decide_eq_true As_
         obtain ⟨ad360, e360, hx360_0⟩ := Kd.at_string HR0_0.out x5_1 p360 q360
         cases e360
         replace hx360_0 := Bw_ hx360_0 HB
         replace p360 := eq_true p360
         replace q360 := eq_true q360
         go_wp2
         go_roundg kj3
         case measure => have := HK1.out; have := HJ3.out; omega
         case rel => exact ⟨(wrap64 (x5_1 + 1)), Rr_, H', ⟨by have := HK1.out; have := HJ3.out; omega⟩, ⟨Bq_ BK359⟩, ⟨Hf_ HB⟩⟩
       ·rw [if_neg c10] at H
        exact absurd H (by simp)
      ·rw [if_neg c9] at H
       exact absurd H (by simp)
     ·replace c8 := Bool.eq_false_iff.mpr c8
      subst c8
      rw [if_neg Ff_] at H
      obtain rfl := Option.some.inj H
      go_wp2
      go_ret
      exact ⟨Re_, Hf_ HB⟩

/-! ### spec_l03Bit: function 146 -/
def spec_l03Bit.f (a0 : Bool) : Option (Int) := if a0 = true then (some 1) else (some 0)
theorem spec_l03Bit.calls (a0 : Bool) (r : Int) (w : World) (h : spec_l03Bit.f a0 = some r) :
  Calls Try.prog 146 #[.bool a0] w fun e w' => e = .returned (.int .i64 r) ∧ Drawn0 w w' := by
 have H : (if a0 = true then (some 1) else (some 0)) = some r := h
 clear h
 by_cases c2 : a0 = true
 ·subst c2
  rw [if_pos rfl] at H
  obtain rfl := Option.some.inj H
  go_enter Try.func146, Try.ntmps146
  go_wp2
  go_ret
  exact ⟨by first | rfl | (simp; done) | (simp [*]; done), by repeat (first | exact Drawn0.refl _ | apply Drawn0.step)⟩
 ·replace c2 := Bool.eq_false_iff.mpr c2
  subst c2
  rw [if_neg Ff_] at H
  obtain rfl := Option.some.inj H
  go_enter Try.func146, Try.ntmps146
  go_wp2
  go_ret
  exact ⟨by first | rfl | (simp; done) | (simp [*]; done), by repeat (first | exact Drawn0.refl _ | apply Drawn0.step)⟩

/-! ### spec_Denied: function 136 -/
def spec_Denied.f (a0 : Int) : Option (Int) := (spec_l03Bit.f (a0 == 0)).bind fun t362 => (some t362)
theorem spec_Denied.calls (a0 : Int) (r : Int) (w : World) (h : spec_Denied.f a0 = some r) :
  Calls Try.prog 136 #[.int .i64 a0] w fun e w' => e = .returned (.int .i64 r) ∧ Drawn0 w w' := by
 have H : ((spec_l03Bit.f (a0 == 0)).bind fun t362 => (some t362)) = some r := h
 clear h
 obtain ⟨t362, A2, H⟩ := Bo_ H
 obtain rfl := Option.some.inj H
 go_enter Try.func136, Try.ntmps136
 go_wp2_with (first | (refine Gl_ (some 5) Try.func146 ((spec_l03Bit.calls (a0 == 0) t362 _ A2.out).mono ?_); rintro e w' ⟨rfl, ⟨nd, rfl⟩⟩; refine ⟨_, rfl, ?_⟩))
 go_ret
 exact ⟨by first | rfl | (simp; done) | (simp [*]; done), by repeat (first | exact Drawn0.refl _ | apply Drawn0.step)⟩

/-! ### spec_ValOk: function 147 -/
def spec_ValOk.f (a0 : Int) : Option (Bool) := (spec_l01In.f a0 (-1000000) 1000000).bind fun t363 => (some t363)
theorem spec_ValOk.calls (a0 : Int) (r : Bool) (w : World) (h : spec_ValOk.f a0 = some r) :
  Calls Try.prog 147 #[.int .i64 a0] w fun e w' => e = .returned (.bool r) ∧ Drawn0 w w' := by
 have H : ((spec_l01In.f a0 (-1000000) 1000000).bind fun t363 => (some t363)) = some r := h
 clear h
 obtain ⟨t363, A2, H⟩ := Bo_ H
 obtain rfl := Option.some.inj H
 go_enter Try.func147, Try.ntmps147
 go_wp2_with (first | (refine Gl_ (some 4) Try.func73 ((spec_l01In.calls a0 (-1000000) 1000000 t363 _ A2.out).mono ?_); rintro e w' ⟨rfl, ⟨nd, rfl⟩⟩; refine ⟨_, rfl, ?_⟩))
 go_ret
 exact ⟨by first | rfl | (simp; done) | (simp [*]; done), by repeat (first | exact Drawn0.refl _ | apply Drawn0.step)⟩

/-! ### spec_Negated: function 137 -/
def spec_Negated.f (a0 : Int) : Option (Int × Int) := (spec_ValOk.f a0).bind fun t364 => (if t364 = true then (some (wrap64 (-a0), 0)) else (some (0, 1)))
theorem spec_Negated.calls (a0 : Int) (r1 : Int) (r2 : Int) (w : World) (h : spec_Negated.f a0 = some (r1, r2)) :
  Calls Try.prog 137 #[.int .i64 a0] w fun e w' => e = .returned (.tuple #[.int .i64 r1, .int .i64 r2]) ∧ Drawn0 w w' := by
 have H : ((spec_ValOk.f a0).bind fun t364 => (if t364 = true then (some (wrap64 (-a0), 0)) else (some (0, 1)))) = some (r1, r2) := h
 clear h
 obtain ⟨t364, A2, H⟩ := Bo_ H
 by_cases c3 : t364 = true
 ·subst c3
  rw [if_pos rfl] at H
  simp only [Option.some.injEq, Prod.mk.injEq] at H
  obtain ⟨rfl, rfl⟩ := H
  go_enter Try.func137, Try.ntmps137
  go_wp2_with (first | (refine Gl_ (some 5) Try.func147 ((spec_ValOk.calls a0 true _ A2.out).mono ?_); rintro e w' ⟨rfl, ⟨nd, rfl⟩⟩; refine ⟨_, rfl, ?_⟩))
  go_ret2
  exact ⟨by first | rfl | (simp; done) | (simp [*]; done), by repeat (first | exact Drawn0.refl _ | apply Drawn0.step)⟩
 ·replace c3 := Bool.eq_false_iff.mpr c3
  subst c3
  rw [if_neg Ff_] at H
  simp only [Option.some.injEq, Prod.mk.injEq] at H
  obtain ⟨rfl, rfl⟩ := H
  go_enter Try.func137, Try.ntmps137
  go_wp2_with (first | (refine Gl_ (some 5) Try.func147 ((spec_ValOk.calls a0 false _ A2.out).mono ?_); rintro e w' ⟨rfl, ⟨nd, rfl⟩⟩; refine ⟨_, rfl, ?_⟩))
  go_ret2
  exact ⟨by first | rfl | (simp; done) | (simp [*]; done), by repeat (first | exact Drawn0.refl _ | apply Drawn0.step)⟩

end Go.Proofs.Ytmbkcbgbienjoaa.PFnExactValueOf
