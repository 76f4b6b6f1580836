/- The machine side of the law FnExactValueOf: for each function that it reaches, a Lean function and its contract. Written by a program of this session's over the kit's print. No condition. -/
import Derived.Test.YtmbkcbgbienjoaaCmq
import Derived.Test.YtmbkcbgbienjoaaPFnExactValueOfx0
import Derived.Test.YtmbkcbgbienjoaaPFnExactValueOfx3
namespace Go.Proofs.Ytmbkcbgbienjoaa.PFnExactValueOf
open Go.RowKit Go.Proofs.YtmbkcbgbienjoaaW.PrintWords Go.Proofs.YtmbkcbgbienjoaaW.PrintLast Go.Proofs.YtmbkcbgbienjoaaW.PrintMore Go.Proofs.Ytmbkcbgbienjoaa.Cmp
attribute [local go_sem] max2_int min2_int max_two min_two max_three min_three max_four min_four   -- for this text's walks alone
set_option linter.unusedVariables false
set_option maxHeartbeats 8000000
set_option maxRecDepth 100000
set_option linter.unusedSimpArgs false

/-! ### laws_eqNodeS: function 62 -/
def laws_eqNodeS.l0 : Nat → List (S77) → List (S77) → Int → Option (Bool)
 | 0, _, _, _ => none
 | k + 1, x0, x1, x5 => if x5 < (x0.length : Int) then (if 0 ≤ x5 then (if x5 < (x1.length : Int) then ((laws_eqNode.f k ((rd_T77 x0 x5).f0) ((rd_T77 x0 x5).f1) ((rd_T77 x0 x5).f2) ((rd_T77 x0 x5).f3) ((rd_T77 x0 x5).f4) ((rd_T77 x0 x5).f5) ((rd_T77 x1 x5).f0) ((rd_T77 x1 x5).f1) ((rd_T77 x1 x5).f2) ((rd_T77 x1 x5).f3) ((rd_T77 x1 x5).f4) ((rd_T77 x1 x5).f5)).bind fun t232 => (if t232 = true then (laws_eqNodeS.l0 k x0 x1 (wrap64 (x5 + 1))) else (some false))) else (none)) else (none)) else (some true)
def laws_eqNodeS.f (k : Nat) (l0 : List (S77)) (l1 : List (S77)) : Option (Bool) := if (l0.length : Int) = (l1.length : Int) then (laws_eqNodeS.l0 k l0 l1 0) else (some false)
def laws_eqNodeS.T6 : Bool × List (List Nat × List Nat) := (true, [([], []), ([], []), ([0, 1], [0, 1]), ([2], [2]), ([], []), ([], []), ([4, 5], [4, 5]), ([6], [6]), ([3, 7], [3, 7]), ([8], [8])])
def laws_eqNodeS.B6 : List Nat := [0, 0, 3, 7, 0, 0, 48, 112, 255, 511]
theorem laws_eqNodeS.tab6 : rtab .any (opsOf Try.f62 6) = laws_eqNodeS.T6 := by kernel_rfl
theorem laws_eqNodeS.bits6 : waitsOk laws_eqNodeS.T6.2 laws_eqNodeS.B6 = true := by kernel_rfl
theorem laws_eqNodeS.calls (k : Nat) (A0 : Option Addr) (c0 : Nat) (l0 : List (S77)) (A1 : Option Addr) (c1 : Nat) (l1 : List (S77)) (r : Bool) (w : World) (hr0 : Kd.C k77 w A0 l0.length l0) (hc0 : l0.length ≤ c0) (hr1 : Kd.C k77 w A1 l1.length l1) (hc1 : l1.length ≤ c1) (h : laws_eqNodeS.f k l0 l1 = some r) :
  Calls Try.prog 62 #[.slice A0 l0.length c0, .slice A1 l1.length c1] w fun e w' => e = .returned (.bool r) ∧ Below w.heap.size w w' := by
 have hu77 := Try.underlying77
 have HR0 := Aside0.mk hr0
 have HC0 := Aside0.mk hc0
 clear hr0 hc0
 have HR1 := Aside0.mk hr1
 have HC1 := Aside0.mk hc1
 clear hr1 hc1
 have HB := Aside0.mk (Below.refl w.heap.size w)
 have H : (if (l0.length : Int) = (l1.length : Int) then (laws_eqNodeS.l0 k l0 l1 0) else (some false)) = some r := h
 clear h
 by_cases c3 : (l0.length : Int) = (l1.length : Int)
 ·rw [if_pos c3] at H
  have c3b0 := beq_iff_eq.mpr c3
  have c3b1 := bne_eq_false_iff_eq.mpr c3
  have c3b2 : (l0.length == l1.length) = true := by first | simpa using c3 | (simp at c3 ⊢; omega)
  clear c3
  have H' := Aside0.mk H
  clear H
  go_enter Try.func62, Try.ntmps62
  go_wp2
  go_loopg [5] k (fun kq v5 w' => ∃ (x5_1 : Int), v5 = .int .i64 x5_1 ∧ Aside0 (laws_eqNodeS.l0 kq l0 l1 x5_1 = some r) ∧ Aside0 (kq ≤ k) ∧ Aside0 (Below w.heap.size w w'))
  case atStart => exact ⟨(0), Rr_, H', ⟨Nat.le_refl _⟩, ⟨Hf_ HB⟩⟩
  case round =>
   clear H'
   clear c3b0 c3b1 c3b2
   obtain ⟨x5_1, rfl, HA, HK1, HB⟩ := hrel
   cases gk with
   | zero => exact absurd HA.out (by simp [laws_eqNodeS.l0])
   | succ k1 =>
    have H := HA.out
    clear HA
    simp only [laws_eqNodeS.l0] at H
    by_cases c4 : x5_1 < (l0.length : Int)
    ·rw [if_pos c4] at H
     have c4b0 := decide_eq_true c4
     clear c4
     by_cases c5 : 0 ≤ x5_1
     ·rw [if_pos c5] at H
      have c5b0 := decide_eq_true c5
      clear c5
      by_cases c6 : x5_1 < (l1.length : Int)
      ·rw [if_pos c6] at H
       have c6b0 := decide_eq_true c6
       clear c6
       obtain ⟨t232, A7, H⟩ := Bo_ H
       by_cases c8 : t232 = true
       ·subst c8
        rw [if_pos rfl] at H
        have H' := Aside0.mk H
        clear H
        try go_wp2
        replace HB := Aside0.mk (below_drew1 HB.out)
        have p230 : 0 ≤ (x5_1 : Int) := of_decide_eq_true As_
        have q230 : x5_1 < (l0.length : Int) := of_decide_eq_true As_
        obtain ⟨ad230, A230_5, c230_5, e230, hx230_0, hx230_1, hx230_2, hx230_3, hx230_4, hx230_5, hl230_5, hi230_5⟩ := at_T77 HR0.out x5_1 p230 q230
        have hw230_5 := hx230_5
        have hw230_4 := hx230_4
        have hw230_3 := hx230_3
        have hw230_2 := hx230_2
        have hw230_1 := hx230_1
        have hw230_0 := hx230_0
        cases e230
        replace hx230_0 := Bw_ hx230_0 HB
        replace hx230_1 := Bw_ hx230_1 HB
        replace hx230_2 := Bw_ hx230_2 HB
        replace hx230_3 := Bw_ hx230_3 HB
        replace hx230_4 := Bw_ hx230_4 HB
        replace hx230_5 := Bw_ hx230_5 HB
        have HR230_5 := Aside0.mk hi230_5
        have HC230_5 := Aside0.mk hl230_5
        clear hi230_5 hl230_5
        replace p230 := eq_true p230
        replace q230 := eq_true q230
        have p231 : 0 ≤ (x5_1 : Int) := of_decide_eq_true As_
        have q231 : x5_1 < (l1.length : Int) := of_decide_eq_true As_
        obtain ⟨ad231, A231_5, c231_5, e231, hx231_0, hx231_1, hx231_2, hx231_3, hx231_4, hx231_5, hl231_5, hi231_5⟩ := at_T77 HR1.out x5_1 p231 q231
        have hw231_5 := hx231_5
        have hw231_4 := hx231_4
        have hw231_3 := hx231_3
        have hw231_2 := hx231_2
        have hw231_1 := hx231_1
        have hw231_0 := hx231_0
        cases e231
        replace hx231_0 := Bw_ hx231_0 HB
        replace hx231_1 := Bw_ hx231_1 HB
        replace hx231_2 := Bw_ hx231_2 HB
        replace hx231_3 := Bw_ hx231_3 HB
        replace hx231_4 := Bw_ hx231_4 HB
        replace hx231_5 := Bw_ hx231_5 HB
        have HR231_5 := Aside0.mk hi231_5
        have HC231_5 := Aside0.mk hl231_5
        clear hi231_5 hl231_5
        replace p231 := eq_true p231
        replace q231 := eq_true q231
        refine start_ (n := 10) (S := fun w' => w'.cell? (ad230.add ((x5_1).toNat * 6)) = some (.int .i64 ((rd_T77 l0 x5_1).f0)) ∧ w'.cell? ⟨(ad230.add ((x5_1).toNat * 6)).block, (ad230.add ((x5_1).toNat * 6)).off + 1, none⟩ = some (.int .i64 ((rd_T77 l0 x5_1).f1)) ∧ w'.cell? ⟨(ad230.add ((x5_1).toNat * 6)).block, (ad230.add ((x5_1).toNat * 6)).off + 2, none⟩ = some (.string ((rd_T77 l0 x5_1).f2)) ∧ w'.cell? ⟨(ad230.add ((x5_1).toNat * 6)).block, (ad230.add ((x5_1).toNat * 6)).off + 3, none⟩ = some (.string ((rd_T77 l0 x5_1).f3)) ∧ w'.cell? ⟨(ad230.add ((x5_1).toNat * 6)).block, (ad230.add ((x5_1).toNat * 6)).off + 4, none⟩ = some (.string ((rd_T77 l0 x5_1).f4)) ∧ w'.cell? ⟨(ad230.add ((x5_1).toNat * 6)).block, (ad230.add ((x5_1).toNat * 6)).off + 5, none⟩ = some (.slice A230_5 ((rd_T77 l0 x5_1).f5).length c230_5) ∧ w'.cell? (ad231.add ((x5_1).toNat * 6)) = some (.int .i64 ((rd_T77 l1 x5_1).f0)) ∧ w'.cell? ⟨(ad231.add ((x5_1).toNat * 6)).block, (ad231.add ((x5_1).toNat * 6)).off + 1, none⟩ = some (.int .i64 ((rd_T77 l1 x5_1).f1)) ∧ w'.cell? ⟨(ad231.add ((x5_1).toNat * 6)).block, (ad231.add ((x5_1).toNat * 6)).off + 2, none⟩ = some (.string ((rd_T77 l1 x5_1).f2)) ∧ w'.cell? ⟨(ad231.add ((x5_1).toNat * 6)).block, (ad231.add ((x5_1).toNat * 6)).off + 3, none⟩ = some (.string ((rd_T77 l1 x5_1).f3)) ∧ w'.cell? ⟨(ad231.add ((x5_1).toNat * 6)).block, (ad231.add ((x5_1).toNat * 6)).off + 4, none⟩ = some (.string ((rd_T77 l1 x5_1).f4)) ∧ w'.cell? ⟨(ad231.add ((x5_1).toNat * 6)).block, (ad231.add ((x5_1).toNat * 6)).off + 5, none⟩ = some (.slice A231_5 ((rd_T77 l1 x5_1).f5).length c231_5)) (ds := []) #[false, false, false, false, false, false, false, false, false, false] (by kernel_rfl) rfl rfl ⟨(Bw_ hw230_0 HB), (Bw_ hw230_1 HB), (Bw_ hw230_2 HB), (Bw_ hw230_3 HB), (Bw_ hw230_4 HB), (Bw_ hw230_5 HB), (Bw_ hw231_0 HB), (Bw_ hw231_1 HB), (Bw_ hw231_2 HB), (Bw_ hw231_3 HB), (Bw_ hw231_4 HB), (Bw_ hw231_5 HB)⟩ (fun hHeld => ?_); refine with_tabW laws_eqNodeS.tab6 laws_eqNodeS.bits6 (fun HT_ HW_ => ?_)
        generalize wr.drew = w9 at HB HR230_5 HR231_5 hx230_0 hx230_1 hx230_2 hx230_3 hx230_4 hx230_5 hx231_0 hx231_1 hx231_2 hx231_3 hx231_4 hx231_5 hHeld ⊢
        refine Pu_ 0 (some 17) HT_ ?_
        refine Pu_ 1 (some 18) HT_ ?_
        refine Pu_ 2 (some 19) HT_ ?_
        refine Pu_ 4 (some 21) HT_ ?_
        refine Pu_ 5 (some 22) HT_ ?_
        refine Pu_ 6 (some 23) HT_ ?_
        refine Tk_ 3 (some 20) HT_ HW_ hHeld ?_
        refine Tk_ 7 (some 24) HT_ HW_ hHeld ?_
        refine On_ 8 (some 25) HT_ (fun K hK => ?_)
        refine Gs_ Try.func115 ((laws_eqNode.calls k1 ((rd_T77 l0 x5_1).f0) ((rd_T77 l0 x5_1).f1) ((rd_T77 l0 x5_1).f2) ((rd_T77 l0 x5_1).f3) ((rd_T77 l0 x5_1).f4) _ _ ((rd_T77 l0 x5_1).f5) ((rd_T77 l1 x5_1).f0) ((rd_T77 l1 x5_1).f1) ((rd_T77 l1 x5_1).f2) ((rd_T77 l1 x5_1).f3) ((rd_T77 l1 x5_1).f4) _ _ ((rd_T77 l1 x5_1).f5) true _ (Sc_ HR230_5 HB) HC230_5.out (Sc_ HR231_5 HB) HC231_5.out A7.out).mono ?_)
        rintro e w10 ⟨rfl, hb⟩
        refine ⟨_, rfl, ?_⟩
        replace HB := Hs_ HB hb
        clear hb
        refine hK.out _ _ ⟨(Bw_ hw230_0 HB), (Bw_ hw230_1 HB), (Bw_ hw230_2 HB), (Bw_ hw230_3 HB), (Bw_ hw230_4 HB), (Bw_ hw230_5 HB), (Bw_ hw231_0 HB), (Bw_ hw231_1 HB), (Bw_ hw231_2 HB), (Bw_ hw231_3 HB), (Bw_ hw231_4 HB), (Bw_ hw231_5 HB)⟩ (fun hHeld => ?_)
        clear hK K
        refine No_ (some 25) ?_
        refine Pu_ 9 (some 26) HT_ ?_
        refine done_ (done_of HT_.out (by kernel_rfl)) ?_
        try go_wp2
        go_roundg k1
        case measure => have := HK1.out; omega
        case rel => exact ⟨(wrap64 (x5_1 + 1)), Rr_, H', ⟨by have := HK1.out; omega⟩, ⟨Hf_ HB⟩⟩
       ·replace c8 := Bool.eq_false_iff.mpr c8
        subst c8
        rw [if_neg Ff_] at H
        obtain rfl := Option.some.inj H
        try go_wp2
        replace HB := Aside0.mk (below_drew1 HB.out)
        have p230 : 0 ≤ (x5_1 : Int) := of_decide_eq_true As_
        have q230 : x5_1 < (l0.length : Int) := of_decide_eq_true As_
        obtain ⟨ad230, A230_5, c230_5, e230, hx230_0, hx230_1, hx230_2, hx230_3, hx230_4, hx230_5, hl230_5, hi230_5⟩ := at_T77 HR0.out x5_1 p230 q230
        have hw230_5 := hx230_5
        have hw230_4 := hx230_4
        have hw230_3 := hx230_3
        have hw230_2 := hx230_2
        have hw230_1 := hx230_1
        have hw230_0 := hx230_0
        cases e230
        replace hx230_0 := Bw_ hx230_0 HB
        replace hx230_1 := Bw_ hx230_1 HB
        replace hx230_2 := Bw_ hx230_2 HB
        replace hx230_3 := Bw_ hx230_3 HB
        replace hx230_4 := Bw_ hx230_4 HB
        replace hx230_5 := Bw_ hx230_5 HB
        have HR230_5 := Aside0.mk hi230_5
        have HC230_5 := Aside0.mk hl230_5
        clear hi230_5 hl230_5
        replace p230 := eq_true p230
        replace q230 := eq_true q230
        have p231 : 0 ≤ (x5_1 : Int) := of_decide_eq_true As_
        have q231 : x5_1 < (l1.length : Int) := of_decide_eq_true As_
        obtain ⟨ad231, A231_5, c231_5, e231, hx231_0, hx231_1, hx231_2, hx231_3, hx231_4, hx231_5, hl231_5, hi231_5⟩ := at_T77 HR1.out x5_1 p231 q231
        have hw231_5 := hx231_5
        have hw231_4 := hx231_4
        have hw231_3 := hx231_3
        have hw231_2 := hx231_2
        have hw231_1 := hx231_1
        have hw231_0 := hx231_0
        cases e231
        replace hx231_0 := Bw_ hx231_0 HB
        replace hx231_1 := Bw_ hx231_1 HB
        replace hx231_2 := Bw_ hx231_2 HB
        replace hx231_3 := Bw_ hx231_3 HB
        replace hx231_4 := Bw_ hx231_4 HB
        replace hx231_5 := Bw_ hx231_5 HB
        have HR231_5 := Aside0.mk hi231_5
        have HC231_5 := Aside0.mk hl231_5
        clear hi231_5 hl231_5
        replace p231 := eq_true p231
        replace q231 := eq_true q231
        refine start_ (n := 10) (S := fun w' => w'.cell? (ad230.add ((x5_1).toNat * 6)) = some (.int .i64 ((rd_T77 l0 x5_1).f0)) ∧ w'.cell? ⟨(ad230.add ((x5_1).toNat * 6)).block, (ad230.add ((x5_1).toNat * 6)).off + 1, none⟩ = some (.int .i64 ((rd_T77 l0 x5_1).f1)) ∧ w'.cell? ⟨(ad230.add ((x5_1).toNat * 6)).block, (ad230.add ((x5_1).toNat * 6)).off + 2, none⟩ = some (.string ((rd_T77 l0 x5_1).f2)) ∧ w'.cell? ⟨(ad230.add ((x5_1).toNat * 6)).block, (ad230.add ((x5_1).toNat * 6)).off + 3, none⟩ = some (.string ((rd_T77 l0 x5_1).f3)) ∧ w'.cell? ⟨(ad230.add ((x5_1).toNat * 6)).block, (ad230.add ((x5_1).toNat * 6)).off + 4, none⟩ = some (.string ((rd_T77 l0 x5_1).f4)) ∧ w'.cell? ⟨(ad230.add ((x5_1).toNat * 6)).block, (ad230.add ((x5_1).toNat * 6)).off + 5, none⟩ = some (.slice A230_5 ((rd_T77 l0 x5_1).f5).length c230_5) ∧ w'.cell? (ad231.add ((x5_1).toNat * 6)) = some (.int .i64 ((rd_T77 l1 x5_1).f0)) ∧ w'.cell? ⟨(ad231.add ((x5_1).toNat * 6)).block, (ad231.add ((x5_1).toNat * 6)).off + 1, none⟩ = some (.int .i64 ((rd_T77 l1 x5_1).f1)) ∧ w'.cell? ⟨(ad231.add ((x5_1).toNat * 6)).block, (ad231.add ((x5_1).toNat * 6)).off + 2, none⟩ = some (.string ((rd_T77 l1 x5_1).f2)) ∧ w'.cell? ⟨(ad231.add ((x5_1).toNat * 6)).block, (ad231.add ((x5_1).toNat * 6)).off + 3, none⟩ = some (.string ((rd_T77 l1 x5_1).f3)) ∧ w'.cell? ⟨(ad231.add ((x5_1).toNat * 6)).block, (ad231.add ((x5_1).toNat * 6)).off + 4, none⟩ = some (.string ((rd_T77 l1 x5_1).f4)) ∧ w'.cell? ⟨(ad231.add ((x5_1).toNat * 6)).block, (ad231.add ((x5_1).toNat * 6)).off + 5, none⟩ = some (.slice A231_5 ((rd_T77 l1 x5_1).f5).length c231_5)) (ds := []) #[false, false, false, false, false, false, false, false, false, false] (by kernel_rfl) rfl rfl ⟨(Bw_ hw230_0 HB), (Bw_ hw230_1 HB), (Bw_ hw230_2 HB), (Bw_ hw230_3 HB), (Bw_ hw230_4 HB), (Bw_ hw230_5 HB), (Bw_ hw231_0 HB), (Bw_ hw231_1 HB), (Bw_ hw231_2 HB), (Bw_ hw231_3 HB), (Bw_ hw231_4 HB), (Bw_ hw231_5 HB)⟩ (fun hHeld => ?_); refine with_tabW laws_eqNodeS.tab6 laws_eqNodeS.bits6 (fun HT_ HW_ => ?_)
        generalize wr.drew = w11 at HB HR230_5 HR231_5 hx230_0 hx230_1 hx230_2 hx230_3 hx230_4 hx230_5 hx231_0 hx231_1 hx231_2 hx231_3 hx231_4 hx231_5 hHeld ⊢
        refine Pu_ 0 (some 17) HT_ ?_
        refine Pu_ 1 (some 18) HT_ ?_
        refine Pu_ 2 (some 19) HT_ ?_
        refine Pu_ 4 (some 21) HT_ ?_
        refine Pu_ 5 (some 22) HT_ ?_
        refine Pu_ 6 (some 23) HT_ ?_
        refine Tk_ 3 (some 20) HT_ HW_ hHeld ?_
        refine Tk_ 7 (some 24) HT_ HW_ hHeld ?_
        refine On_ 8 (some 25) HT_ (fun K hK => ?_)
        refine Gs_ Try.func115 ((laws_eqNode.calls k1 ((rd_T77 l0 x5_1).f0) ((rd_T77 l0 x5_1).f1) ((rd_T77 l0 x5_1).f2) ((rd_T77 l0 x5_1).f3) ((rd_T77 l0 x5_1).f4) _ _ ((rd_T77 l0 x5_1).f5) ((rd_T77 l1 x5_1).f0) ((rd_T77 l1 x5_1).f1) ((rd_T77 l1 x5_1).f2) ((rd_T77 l1 x5_1).f3) ((rd_T77 l1 x5_1).f4) _ _ ((rd_T77 l1 x5_1).f5) false _ (Sc_ HR230_5 HB) HC230_5.out (Sc_ HR231_5 HB) HC231_5.out A7.out).mono ?_)
        rintro e w12 ⟨rfl, hb⟩
        refine ⟨_, rfl, ?_⟩
        replace HB := Hs_ HB hb
        clear hb
        refine hK.out _ _ ⟨(Bw_ hw230_0 HB), (Bw_ hw230_1 HB), (Bw_ hw230_2 HB), (Bw_ hw230_3 HB), (Bw_ hw230_4 HB), (Bw_ hw230_5 HB), (Bw_ hw231_0 HB), (Bw_ hw231_1 HB), (Bw_ hw231_2 HB), (Bw_ hw231_3 HB), (Bw_ hw231_4 HB), (Bw_ hw231_5 HB)⟩ (fun hHeld => ?_)
        clear hK K
        refine No_ (some 25) ?_
        refine Pu_ 9 (some 26) HT_ ?_
        refine done_ (done_of HT_.out (by kernel_rfl)) ?_
        try go_wp2
        go_ret
        exact ⟨Re_, Hf_ HB⟩
      ·rw [if_neg c6] at H
       exact absurd H (by simp)
     ·rw [if_neg c5] at H
      exact absurd H (by simp)
    ·rw [if_neg c4] at H
     have c4b0 := decide_eq_false c4
     clear c4
     obtain rfl := Option.some.inj H
     go_wp2
     go_ret
     exact ⟨Re_, Hf_ HB⟩
 ·rw [if_neg c3] at H
  have c3b0 := beq_eq_false_iff_ne.mpr c3
  have c3b1 := bne_iff_ne.mpr c3
  have c3b2 : (l0.length == l1.length) = false := by first | simpa using c3 | (simp at c3 ⊢; omega)
  obtain rfl := Option.some.inj H
  go_enter Try.func62, Try.ntmps62
  go_wp2
  go_ret
  exact ⟨Re_, Hf_ HB⟩

/-! ### laws_eqStringS: function 31 -/
def laws_eqStringS.l0 : Nat → List ByteArray → List ByteArray → Int → Option (Bool)
 | 0, _, _, _ => none
 | k + 1, x0, x1, x5 => if x5 < (x0.length : Int) then (if 0 ≤ x5 then (if x5 < (x1.length : Int) then (if (rdOf ByteArray.empty x0 x5).toList = (rdOf ByteArray.empty x1 x5).toList then (laws_eqStringS.l0 k x0 x1 (wrap64 (x5 + 1))) else (some false)) else (none)) else (none)) else (some true)
def laws_eqStringS.f (k : Nat) (l0 : List ByteArray) (l1 : List ByteArray) : Option (Bool) := if (l0.length : Int) = (l1.length : Int) then (laws_eqStringS.l0 k l0 l1 0) else (some false)
theorem laws_eqStringS.calls (k : Nat) (A0 : Option Addr) (c0 : Nat) (l0 : List ByteArray) (A1 : Option Addr) (c1 : Nat) (l1 : List ByteArray) (r : Bool) (w : World) (hr0 : Kd.C Kd.string w A0 l0.length l0) (hc0 : l0.length ≤ c0) (hr1 : Kd.C Kd.string w A1 l1.length l1) (hc1 : l1.length ≤ c1) (h : laws_eqStringS.f k l0 l1 = some r) :
  Calls Try.prog 31 #[.slice A0 l0.length c0, .slice A1 l1.length c1] w fun e w' => e = .returned (.bool r) ∧ Drawn0 w w' := by
 have HR0 := Aside0.mk hr0
 have HC0 := Aside0.mk hc0
 clear hr0 hc0
 have HR1 := Aside0.mk hr1
 have HC1 := Aside0.mk hc1
 clear hr1 hc1
 have H : (if (l0.length : Int) = (l1.length : Int) then (laws_eqStringS.l0 k l0 l1 0) else (some false)) = some r := h
 clear h
 by_cases c3 : (l0.length : Int) = (l1.length : Int)
 ·rw [if_pos c3] at H
  have c3b0 := beq_iff_eq.mpr c3
  have c3b1 := bne_eq_false_iff_eq.mpr c3
  have c3b2 : (l0.length == l1.length) = true := by first | simpa using c3 | (simp at c3 ⊢; omega)
  clear c3
  have H' := Aside0.mk H
  clear H
  go_enter Try.func31, Try.ntmps31
  go_wp2
  repeat (go_quiet (fail); try go_wp2)
  go_loopg [5] k (fun kq v5 w' => ∃ (x5_1 : Int), v5 = .int .i64 x5_1 ∧ Aside0 (laws_eqStringS.l0 kq l0 l1 x5_1 = some r) ∧ Aside0 (kq ≤ k) ∧ Drawn0 w w')
  case atStart => exact ⟨(0), Rr_, H', ⟨Nat.le_refl _⟩, by repeat (first | exact Drawn0.refl _ | apply Drawn0.step)⟩
  case round =>
   clear H'
   clear c3b0 c3b1 c3b2
   obtain ⟨x5_1, rfl, HA, HK1, ⟨m1, rfl⟩⟩ := hrel
   cases gk with
   | zero => exact absurd HA.out (by simp [laws_eqStringS.l0])
   | succ k1 =>
    have H := HA.out
    clear HA
    simp only [laws_eqStringS.l0] at H
    by_cases c4 : x5_1 < (l0.length : Int)
    ·rw [if_pos c4] at H
     have c4b0 := decide_eq_true c4
     clear c4
     by_cases c5 : 0 ≤ x5_1
     ·rw [if_pos c5] at H
      have c5b0 := decide_eq_true c5
      clear c5
      by_cases c6 : x5_1 < (l1.length : Int)
      ·rw [if_pos c6] at H
       have c6b0 := decide_eq_true c6
       clear c6
       by_cases c7 : (rdOf ByteArray.empty l0 x5_1).toList = (rdOf ByteArray.empty l1 x5_1).toList
       ·rw [if_pos c7] at H
        have c7b0 := beq_iff_eq.mpr c7
        have c7b1 := bne_eq_false_iff_eq.mpr c7
        clear c7
        have H' := Aside0.mk H
        clear H
        have p233 : 0 ≤ (x5_1 : Int) := of_decide_eq_true As_
        have q233 : x5_1 < (l0.length : Int) := of_decide_eq_true As_
        obtain ⟨ad233, e233, hx233_0⟩ := Kd.at_string HR0.out x5_1 p233 q233
        cases e233
        replace p233 := eq_true p233
        replace q233 := eq_true q233
        have p234 : 0 ≤ (x5_1 : Int) := of_decide_eq_true As_
        have q234 : x5_1 < (l1.length : Int) := of_decide_eq_true As_
        obtain ⟨ad234, e234, hx234_0⟩ := Kd.at_string HR1.out x5_1 p234 q234
        cases e234
        replace p234 := eq_true p234
        replace q234 := eq_true q234
        go_wp2
        repeat (go_quiet (fail); try go_wp2)
        go_roundg k1
        case measure => have := HK1.out; omega
        case rel => exact ⟨(wrap64 (x5_1 + 1)), Rr_, H', ⟨by have := HK1.out; omega⟩, by repeat (first | exact Drawn0.refl _ | apply Drawn0.step)⟩
       ·rw [if_neg c7] at H
        have c7b0 := beq_eq_false_iff_ne.mpr c7
        have c7b1 := bne_iff_ne.mpr c7
        obtain rfl := Option.some.inj H
        have p233 : 0 ≤ (x5_1 : Int) := of_decide_eq_true As_
        have q233 : x5_1 < (l0.length : Int) := of_decide_eq_true As_
        obtain ⟨ad233, e233, hx233_0⟩ := Kd.at_string HR0.out x5_1 p233 q233
        cases e233
        replace p233 := eq_true p233
        replace q233 := eq_true q233
        have p234 : 0 ≤ (x5_1 : Int) := of_decide_eq_true As_
        have q234 : x5_1 < (l1.length : Int) := of_decide_eq_true As_
        obtain ⟨ad234, e234, hx234_0⟩ := Kd.at_string HR1.out x5_1 p234 q234
        cases e234
        replace p234 := eq_true p234
        replace q234 := eq_true q234
        go_wp2
        repeat (go_quiet (fail); try go_wp2)
        go_ret
        exact ⟨by first | rfl | (simp; done) | (simp [*]; done), by repeat (first | exact Drawn0.refl _ | apply Drawn0.step)⟩
      ·rw [if_neg c6] at H
       exact absurd H (by simp)
     ·rw [if_neg c5] at H
      exact absurd H (by simp)
    ·rw [if_neg c4] at H
     have c4b0 := decide_eq_false c4
     clear c4
     obtain rfl := Option.some.inj H
     go_wp2
     repeat (go_quiet (fail); try go_wp2)
     go_ret
     exact ⟨by first | rfl | (simp; done) | (simp [*]; done), by repeat (first | exact Drawn0.refl _ | apply Drawn0.step)⟩
 ·rw [if_neg c3] at H
  have c3b0 := beq_eq_false_iff_ne.mpr c3
  have c3b1 := bne_iff_ne.mpr c3
  have c3b2 : (l0.length == l1.length) = false := by first | simpa using c3 | (simp at c3 ⊢; omega)
  obtain rfl := Option.some.inj H
  go_enter Try.func31, Try.ntmps31
  go_wp2
  repeat (go_quiet (fail); try go_wp2)
  go_ret
  exact ⟨by first | rfl | (simp; done) | (simp [*]; done), by repeat (first | exact Drawn0.refl _ | apply Drawn0.step)⟩

/-! ### laws_eqEntry: function 150 -/
def laws_eqEntry.f (a0_0 : ByteArray) (a0_1 : ByteArray) (a0_2 : Int) (a1_0 : ByteArray) (a1_1 : ByteArray) (a1_2 : Int) : Option (Bool) := if a0_0.toList = a1_0.toList then (if a0_1.toList = a1_1.toList then (if a0_2 = a1_2 then (some true) else (some false)) else (some false)) else (some false)
theorem laws_eqEntry.calls (a0_0 : ByteArray) (a0_1 : ByteArray) (a0_2 : Int) (a1_0 : ByteArray) (a1_1 : ByteArray) (a1_2 : Int) (r : Bool) (w : World) (h : laws_eqEntry.f a0_0 a0_1 a0_2 a1_0 a1_1 a1_2 = some r) :
  Calls Try.prog 150 #[.agg #[.string a0_0, .string a0_1, .int .i64 a0_2], .agg #[.string a1_0, .string a1_1, .int .i64 a1_2]] w fun e w' => e = .returned (.bool r) ∧ Below w.heap.size w w' := by
 have hu131 := Try.underlying131
 have HB := Aside0.mk (Below.refl w.heap.size w)
 have H : (if a0_0.toList = a1_0.toList then (if a0_1.toList = a1_1.toList then (if a0_2 = a1_2 then (some true) else (some false)) else (some false)) else (some false)) = some r := h
 clear h
 by_cases c3 : a0_0.toList = a1_0.toList
 ·rw [if_pos c3] at H
  have c3b0 := beq_iff_eq.mpr c3
  have c3b1 := bne_eq_false_iff_eq.mpr c3
  clear c3
  by_cases c4 : a0_1.toList = a1_1.toList
  ·rw [if_pos c4] at H
   have c4b0 := beq_iff_eq.mpr c4
   have c4b1 := bne_eq_false_iff_eq.mpr c4
   clear c4
   by_cases c5 : a0_2 = a1_2
   ·rw [if_pos c5] at H
    have c5b0 := beq_iff_eq.mpr c5
    have c5b1 := bne_eq_false_iff_eq.mpr c5
    clear c5
    obtain rfl := Option.some.inj H
    go_enter Try.func150, Try.ntmps150
    go_wp2_with (first | (refine Bv_ 2 #[.string a0_0, .string a0_1, .int .i64 a0_2] 131 ?_; intro gb235 hg w6 BK235 hb; have GW235 := Hg_ HB hg; replace HB := Hs_ HB hb; clear hb hg) | (refine Bv_ 3 #[.string a1_0, .string a1_1, .int .i64 a1_2] 131 ?_; intro gb236 hg w7 BK236 hb; have GW236 := Hg_ HB hg; have NB235_236 := Bl_ BK235 hg; have NB236_235 := Bm_ NB235_236; replace BK235 := Bb_ BK235 hb; replace HB := Hs_ HB hb; clear hb hg; have hnb8 := NB235_236.out; have hnc8 := NB236_235.out; obtain ⟨hcz9_0, hcz9_1, hcz9_2, hfz9_0, hfz9_1, hfz9_2⟩ := Bc3_ BK235; obtain ⟨hcz10_0, hcz10_1, hcz10_2, hfz10_0, hfz10_1, hfz10_2⟩ := Bc3_ BK236))
    go_ret
    exact ⟨Re_, Hf_ HB⟩
   ·rw [if_neg c5] at H
    have c5b0 := beq_eq_false_iff_ne.mpr c5
    have c5b1 := bne_iff_ne.mpr c5
    obtain rfl := Option.some.inj H
    go_enter Try.func150, Try.ntmps150
    go_wp2_with (first | (refine Bv_ 2 #[.string a0_0, .string a0_1, .int .i64 a0_2] 131 ?_; intro gb235 hg w11 BK235 hb; have GW235 := Hg_ HB hg; replace HB := Hs_ HB hb; clear hb hg) | (refine Bv_ 3 #[.string a1_0, .string a1_1, .int .i64 a1_2] 131 ?_; intro gb236 hg w12 BK236 hb; have GW236 := Hg_ HB hg; have NB235_236 := Bl_ BK235 hg; have NB236_235 := Bm_ NB235_236; replace BK235 := Bb_ BK235 hb; replace HB := Hs_ HB hb; clear hb hg; have hnb13 := NB235_236.out; have hnc13 := NB236_235.out; obtain ⟨hcz14_0, hcz14_1, hcz14_2, hfz14_0, hfz14_1, hfz14_2⟩ := Bc3_ BK235; obtain ⟨hcz15_0, hcz15_1, hcz15_2, hfz15_0, hfz15_1, hfz15_2⟩ := Bc3_ BK236))
    go_ret
    exact ⟨Re_, Hf_ HB⟩
  ·rw [if_neg c4] at H
   have c4b0 := beq_eq_false_iff_ne.mpr c4
   have c4b1 := bne_iff_ne.mpr c4
   obtain rfl := Option.some.inj H
   go_enter Try.func150, Try.ntmps150
   go_wp2_with (first | (refine Bv_ 2 #[.string a0_0, .string a0_1, .int .i64 a0_2] 131 ?_; intro gb235 hg w16 BK235 hb; have GW235 := Hg_ HB hg; replace HB := Hs_ HB hb; clear hb hg) | (refine Bv_ 3 #[.string a1_0, .string a1_1, .int .i64 a1_2] 131 ?_; intro gb236 hg w17 BK236 hb; have GW236 := Hg_ HB hg; have NB235_236 := Bl_ BK235 hg; have NB236_235 := Bm_ NB235_236; replace BK235 := Bb_ BK235 hb; replace HB := Hs_ HB hb; clear hb hg; have hnb18 := NB235_236.out; have hnc18 := NB236_235.out; obtain ⟨hcz19_0, hcz19_1, hcz19_2, hfz19_0, hfz19_1, hfz19_2⟩ := Bc3_ BK235; obtain ⟨hcz20_0, hcz20_1, hcz20_2, hfz20_0, hfz20_1, hfz20_2⟩ := Bc3_ BK236))
   go_ret
   exact ⟨Re_, Hf_ HB⟩
 ·rw [if_neg c3] at H
  have c3b0 := beq_eq_false_iff_ne.mpr c3
  have c3b1 := bne_iff_ne.mpr c3
  obtain rfl := Option.some.inj H
  go_enter Try.func150, Try.ntmps150
  go_wp2_with (first | (refine Bv_ 2 #[.string a0_0, .string a0_1, .int .i64 a0_2] 131 ?_; intro gb235 hg w21 BK235 hb; have GW235 := Hg_ HB hg; replace HB := Hs_ HB hb; clear hb hg) | (refine Bv_ 3 #[.string a1_0, .string a1_1, .int .i64 a1_2] 131 ?_; intro gb236 hg w22 BK236 hb; have GW236 := Hg_ HB hg; have NB235_236 := Bl_ BK235 hg; have NB236_235 := Bm_ NB235_236; replace BK235 := Bb_ BK235 hb; replace HB := Hs_ HB hb; clear hb hg; have hnb23 := NB235_236.out; have hnc23 := NB236_235.out; obtain ⟨hcz24_0, hcz24_1, hcz24_2, hfz24_0, hfz24_1, hfz24_2⟩ := Bc3_ BK235; obtain ⟨hcz25_0, hcz25_1, hcz25_2, hfz25_0, hfz25_1, hfz25_2⟩ := Bc3_ BK236))
  go_ret
  exact ⟨Re_, Hf_ HB⟩

end Go.Proofs.Ytmbkcbgbienjoaa.PFnExactValueOf
