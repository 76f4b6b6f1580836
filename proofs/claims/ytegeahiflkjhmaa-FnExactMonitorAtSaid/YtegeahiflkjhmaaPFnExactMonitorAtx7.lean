/- The machine side of the law FnExactMonitorAt: for each function that it reaches, a Lean function and its contract. Written by a program of this session's over the kit's print. No condition. -/
import Derived.Test.YtegeahiflkjhmaaCmq
import Derived.Test.YtegeahiflkjhmaaPFnExactMonitorAtx0
import Derived.Test.YtegeahiflkjhmaaPFnExactMonitorAtx2
import Derived.Test.YtegeahiflkjhmaaPFnExactMonitorAtx3
import Derived.Test.YtegeahiflkjhmaaPFnExactMonitorAtx4
import Derived.Test.YtegeahiflkjhmaaPFnExactMonitorAtx6
namespace Go.Proofs.Ytegeahiflkjhmaa.PFnExactMonitorAt
open Go.RowKit Go.Proofs.YtegeahiflkjhmaaW.PrintWords Go.Proofs.YtegeahiflkjhmaaW.PrintLast Go.Proofs.YtegeahiflkjhmaaW.PrintMore Go.Proofs.Ytegeahiflkjhmaa.Cmp
attribute [local go_sem] max2_int min2_int max_two min_two max_three min_three max_four min_four   -- for this text's walks alone
set_option linter.unusedVariables false
set_option maxHeartbeats 8000000
set_option maxRecDepth 100000
set_option linter.unusedSimpArgs false

/-! ### laws_eqProcessS: function 101 -/
def laws_eqProcessS.l0 : Nat → List (S130) → List (S130) → Int → Option (Bool)
 | 0, _, _, _ => none
 | k + 1, x0, x1, x5 => if x5 < (x0.length : Int) then (if 0 ≤ x5 then (if x5 < (x1.length : Int) then ((laws_eqProcess.f k ((rd_T130 x0 x5).f0) ((rd_T130 x0 x5).f1) ((rd_T130 x0 x5).f2) ((rd_T130 x0 x5).f3) ((rd_T130 x1 x5).f0) ((rd_T130 x1 x5).f1) ((rd_T130 x1 x5).f2) ((rd_T130 x1 x5).f3)).bind fun t257 => (if t257 = true then (laws_eqProcessS.l0 k x0 x1 (wrap64 (x5 + 1))) else (some false))) else (none)) else (none)) else (some true)
def laws_eqProcessS.f (k : Nat) (l0 : List (S130)) (l1 : List (S130)) : Option (Bool) := if (l0.length : Int) = (l1.length : Int) then (laws_eqProcessS.l0 k l0 l1 0) else (some false)
def laws_eqProcessS.T6 : Bool × List (List Nat × List Nat) := (true, [([], []), ([], []), ([0, 1], [0, 1]), ([2], [2]), ([], []), ([], []), ([4, 5], [4, 5]), ([6], [6]), ([3, 7], [3, 7]), ([8], [8])])
def laws_eqProcessS.B6 : List Nat := [0, 0, 3, 7, 0, 0, 48, 112, 255, 511]
theorem laws_eqProcessS.tab6 : rtab .any (opsOf Try.f101 6) = laws_eqProcessS.T6 := by kernel_rfl
theorem laws_eqProcessS.bits6 : waitsOk laws_eqProcessS.T6.2 laws_eqProcessS.B6 = true := by kernel_rfl
theorem laws_eqProcessS.calls (k : Nat) (A0 : Option Addr) (c0 : Nat) (l0 : List (S130)) (A1 : Option Addr) (c1 : Nat) (l1 : List (S130)) (r : Bool) (w : World) (hr0 : Kd.C k130 w A0 l0.length l0) (hc0 : l0.length ≤ c0) (hr1 : Kd.C k130 w A1 l1.length l1) (hc1 : l1.length ≤ c1) (h : laws_eqProcessS.f k l0 l1 = some r) :
  Calls Try.prog 101 #[.slice A0 l0.length c0, .slice A1 l1.length c1] w fun e w' => e = .returned (.bool r) ∧ Below w.heap.size w w' := by
 have hu130 := Try.underlying130
 have HR0 := Aside0.mk hr0
 have HC0 := Aside0.mk hc0
 clear hr0 hc0
 have HR1 := Aside0.mk hr1
 have HC1 := Aside0.mk hc1
 clear hr1 hc1
 have HB := Aside0.mk (Below.refl w.heap.size w)
 have H : (if (l0.length : Int) = (l1.length : Int) then (laws_eqProcessS.l0 k l0 l1 0) else (some false)) = some r := h
 clear h
 by_cases c3 : (l0.length : Int) = (l1.length : Int)
 ·rw [if_pos c3] at H
  have c3b0 := beq_iff_eq.mpr c3
  have c3b1 := bne_eq_false_iff_eq.mpr c3
  have c3b2 : (l0.length == l1.length) = true := by first | simpa using c3 | (simp at c3 ⊢; omega)
  clear c3
  have H' := Aside0.mk H
  clear H
  go_enter Try.func101, Try.ntmps101
  go_wp2
  go_loopg [5] k (fun kq v5 w' => ∃ (x5_1 : Int), v5 = .int .i64 x5_1 ∧ Aside0 (laws_eqProcessS.l0 kq l0 l1 x5_1 = some r) ∧ Aside0 (kq ≤ k) ∧ Aside0 (Below w.heap.size w w'))
  case atStart => exact ⟨(0), Rr_, H', ⟨Nat.le_refl _⟩, ⟨Hf_ HB⟩⟩
  case round =>
   clear H'
   try clear c1
   try clear p2
   try clear c3
   try clear c3b0
   try clear c3b1
   try clear c3b2
   obtain ⟨x5_1, rfl, HA, HK1, HB⟩ := hrel
   cases gk with
   | zero => exact absurd HA.out (by simp [laws_eqProcessS.l0])
   | succ k1 =>
    have H := HA.out
    clear HA
    simp only [laws_eqProcessS.l0] at H
    by_cases c4 : x5_1 < (l0.length : Int)
    ·rw [if_pos c4] at H
     have c4b0 := decide_eq_true c4
     clear c4
     by_cases c5 : 0 ≤ x5_1
     ·rw [if_pos c5] at H
      have c5b0 := decide_eq_true c5
      clear c5
      by_cases c6 : x5_1 < (l1.length : Int)
      ·rw [if_pos c6] at H
       have c6b0 := decide_eq_true c6
       clear c6
       obtain ⟨t257, A7, H⟩ := Bo_ H
       by_cases c8 : t257 = true
       ·subst c8
        rw [if_pos rfl] at H
        have H' := Aside0.mk H
        clear H
        try go_wp2
        replace HB := Aside0.mk (below_drew1 HB.out)
        have p255 : 0 ≤ (x5_1 : Int) := of_decide_eq_true As_
        have q255 : x5_1 < (l0.length : Int) := of_decide_eq_true As_
        obtain ⟨ad255, A255_1, c255_1, A255_2, c255_2, e255, hx255_0, hx255_1, hx255_2, hx255_3, hl255_1, hi255_1, hl255_2, hi255_2⟩ := at_T130 HR0.out x5_1 p255 q255
        have hw255_3 := hx255_3
        have hw255_2 := hx255_2
        have hw255_1 := hx255_1
        have hw255_0 := hx255_0
        cases e255
        replace hx255_0 := Bw_ hx255_0 HB
        replace hx255_1 := Bw_ hx255_1 HB
        replace hx255_2 := Bw_ hx255_2 HB
        replace hx255_3 := Bw_ hx255_3 HB
        have HR255_1 := Aside0.mk hi255_1
        have HC255_1 := Aside0.mk hl255_1
        clear hi255_1 hl255_1
        have HR255_2 := Aside0.mk hi255_2
        have HC255_2 := Aside0.mk hl255_2
        clear hi255_2 hl255_2
        replace p255 := eq_true p255
        replace q255 := eq_true q255
        have p256 : 0 ≤ (x5_1 : Int) := of_decide_eq_true As_
        have q256 : x5_1 < (l1.length : Int) := of_decide_eq_true As_
        obtain ⟨ad256, A256_1, c256_1, A256_2, c256_2, e256, hx256_0, hx256_1, hx256_2, hx256_3, hl256_1, hi256_1, hl256_2, hi256_2⟩ := at_T130 HR1.out x5_1 p256 q256
        have hw256_3 := hx256_3
        have hw256_2 := hx256_2
        have hw256_1 := hx256_1
        have hw256_0 := hx256_0
        cases e256
        replace hx256_0 := Bw_ hx256_0 HB
        replace hx256_1 := Bw_ hx256_1 HB
        replace hx256_2 := Bw_ hx256_2 HB
        replace hx256_3 := Bw_ hx256_3 HB
        have HR256_1 := Aside0.mk hi256_1
        have HC256_1 := Aside0.mk hl256_1
        clear hi256_1 hl256_1
        have HR256_2 := Aside0.mk hi256_2
        have HC256_2 := Aside0.mk hl256_2
        clear hi256_2 hl256_2
        replace p256 := eq_true p256
        replace q256 := eq_true q256
        refine start_ (n := 10) (S := fun w' => w'.cell? (ad255.add ((x5_1).toNat * 4)) = some (.string ((rd_T130 l0 x5_1).f0)) ∧ w'.cell? ⟨(ad255.add ((x5_1).toNat * 4)).block, (ad255.add ((x5_1).toNat * 4)).off + 1, none⟩ = some (.slice A255_1 ((rd_T130 l0 x5_1).f1).length c255_1) ∧ w'.cell? ⟨(ad255.add ((x5_1).toNat * 4)).block, (ad255.add ((x5_1).toNat * 4)).off + 2, none⟩ = some (.slice A255_2 ((rd_T130 l0 x5_1).f2).length c255_2) ∧ w'.cell? ⟨(ad255.add ((x5_1).toNat * 4)).block, (ad255.add ((x5_1).toNat * 4)).off + 3, none⟩ = some (.int .i64 ((rd_T130 l0 x5_1).f3)) ∧ w'.cell? (ad256.add ((x5_1).toNat * 4)) = some (.string ((rd_T130 l1 x5_1).f0)) ∧ w'.cell? ⟨(ad256.add ((x5_1).toNat * 4)).block, (ad256.add ((x5_1).toNat * 4)).off + 1, none⟩ = some (.slice A256_1 ((rd_T130 l1 x5_1).f1).length c256_1) ∧ w'.cell? ⟨(ad256.add ((x5_1).toNat * 4)).block, (ad256.add ((x5_1).toNat * 4)).off + 2, none⟩ = some (.slice A256_2 ((rd_T130 l1 x5_1).f2).length c256_2) ∧ w'.cell? ⟨(ad256.add ((x5_1).toNat * 4)).block, (ad256.add ((x5_1).toNat * 4)).off + 3, none⟩ = some (.int .i64 ((rd_T130 l1 x5_1).f3))) (ds := []) #[false, false, false, false, false, false, false, false, false, false] (by kernel_rfl) rfl rfl ⟨(Bw_ hw255_0 HB), (Bw_ hw255_1 HB), (Bw_ hw255_2 HB), (Bw_ hw255_3 HB), (Bw_ hw256_0 HB), (Bw_ hw256_1 HB), (Bw_ hw256_2 HB), (Bw_ hw256_3 HB)⟩ (fun hHeld => ?_); refine with_tabW laws_eqProcessS.tab6 laws_eqProcessS.bits6 (fun HT_ HW_ => ?_)
        generalize wr.drew = w9 at HB HR255_1 HR255_2 HR256_1 HR256_2 hx255_0 hx255_1 hx255_2 hx255_3 hx256_0 hx256_1 hx256_2 hx256_3 hHeld ⊢
        refine Pu_ 0 (some 17) HT_ ?_
        refine Pu_ 1 (some 18) HT_ ?_
        refine Pu_ 2 (some 19) HT_ ?_
        refine Pu_ 4 (some 21) HT_ ?_
        refine Pu_ 5 (some 22) HT_ ?_
        refine Pu_ 6 (some 23) HT_ ?_
        refine Tk_ 3 (some 20) HT_ HW_ hHeld ?_
        refine Tk_ 7 (some 24) HT_ HW_ hHeld ?_
        refine On_ 8 (some 25) HT_ (fun K hK => ?_)
        refine Gs_ Try.func134 ((laws_eqProcess.calls k1 ((rd_T130 l0 x5_1).f0) _ _ ((rd_T130 l0 x5_1).f1) _ _ ((rd_T130 l0 x5_1).f2) ((rd_T130 l0 x5_1).f3) ((rd_T130 l1 x5_1).f0) _ _ ((rd_T130 l1 x5_1).f1) _ _ ((rd_T130 l1 x5_1).f2) ((rd_T130 l1 x5_1).f3) true _ (Sc_ HR255_1 HB) HC255_1.out (Sc_ HR255_2 HB) HC255_2.out (Sc_ HR256_1 HB) HC256_1.out (Sc_ HR256_2 HB) HC256_2.out A7.out).mono ?_)
        rintro e w10 ⟨rfl, hb⟩
        refine ⟨_, rfl, ?_⟩
        replace HB := Hs_ HB hb
        clear hb
        refine hK.out _ _ ⟨(Bw_ hw255_0 HB), (Bw_ hw255_1 HB), (Bw_ hw255_2 HB), (Bw_ hw255_3 HB), (Bw_ hw256_0 HB), (Bw_ hw256_1 HB), (Bw_ hw256_2 HB), (Bw_ hw256_3 HB)⟩ (fun hHeld => ?_)
        clear hK K
        refine No_ (some 25) ?_
        refine Pu_ 9 (some 26) HT_ ?_
        refine done_ (done_of HT_.out (by kernel_rfl)) ?_
        try go_wp2
        go_roundg k1
        case measure => have := HK1.out; omega
        case rel => exact ⟨(wrap64 (x5_1 + 1)), Rr_, H', ⟨by have := HK1.out; omega⟩, ⟨Hf_ HB⟩⟩
       ·replace c8 := Bool.eq_false_iff.mpr c8
        subst c8
        rw [if_neg Ff_] at H
        obtain rfl := Option.some.inj H
        try go_wp2
        replace HB := Aside0.mk (below_drew1 HB.out)
        have p255 : 0 ≤ (x5_1 : Int) := of_decide_eq_true As_
        have q255 : x5_1 < (l0.length : Int) := of_decide_eq_true As_
        obtain ⟨ad255, A255_1, c255_1, A255_2, c255_2, e255, hx255_0, hx255_1, hx255_2, hx255_3, hl255_1, hi255_1, hl255_2, hi255_2⟩ := at_T130 HR0.out x5_1 p255 q255
        have hw255_3 := hx255_3
        have hw255_2 := hx255_2
        have hw255_1 := hx255_1
        have hw255_0 := hx255_0
        cases e255
        replace hx255_0 := Bw_ hx255_0 HB
        replace hx255_1 := Bw_ hx255_1 HB
        replace hx255_2 := Bw_ hx255_2 HB
        replace hx255_3 := Bw_ hx255_3 HB
        have HR255_1 := Aside0.mk hi255_1
        have HC255_1 := Aside0.mk hl255_1
        clear hi255_1 hl255_1
        have HR255_2 := Aside0.mk hi255_2
        have HC255_2 := Aside0.mk hl255_2
        clear hi255_2 hl255_2
        replace p255 := eq_true p255
        replace q255 := eq_true q255
        have p256 : 0 ≤ (x5_1 : Int) := of_decide_eq_true As_
        have q256 : x5_1 < (l1.length : Int) := of_decide_eq_true As_
        obtain ⟨ad256, A256_1, c256_1, A256_2, c256_2, e256, hx256_0, hx256_1, hx256_2, hx256_3, hl256_1, hi256_1, hl256_2, hi256_2⟩ := at_T130 HR1.out x5_1 p256 q256
        have hw256_3 := hx256_3
        have hw256_2 := hx256_2
        have hw256_1 := hx256_1
        have hw256_0 := hx256_0
        cases e256
        replace hx256_0 := Bw_ hx256_0 HB
        replace hx256_1 := Bw_ hx256_1 HB
        replace hx256_2 := Bw_ hx256_2 HB
        replace hx256_3 := Bw_ hx256_3 HB
        have HR256_1 := Aside0.mk hi256_1
        have HC256_1 := Aside0.mk hl256_1
        clear hi256_1 hl256_1
        have HR256_2 := Aside0.mk hi256_2
        have HC256_2 := Aside0.mk hl256_2
        clear hi256_2 hl256_2
        replace p256 := eq_true p256
        replace q256 := eq_true q256
        refine start_ (n := 10) (S := fun w' => w'.cell? (ad255.add ((x5_1).toNat * 4)) = some (.string ((rd_T130 l0 x5_1).f0)) ∧ w'.cell? ⟨(ad255.add ((x5_1).toNat * 4)).block, (ad255.add ((x5_1).toNat * 4)).off + 1, none⟩ = some (.slice A255_1 ((rd_T130 l0 x5_1).f1).length c255_1) ∧ w'.cell? ⟨(ad255.add ((x5_1).toNat * 4)).block, (ad255.add ((x5_1).toNat * 4)).off + 2, none⟩ = some (.slice A255_2 ((rd_T130 l0 x5_1).f2).length c255_2) ∧ w'.cell? ⟨(ad255.add ((x5_1).toNat * 4)).block, (ad255.add ((x5_1).toNat * 4)).off + 3, none⟩ = some (.int .i64 ((rd_T130 l0 x5_1).f3)) ∧ w'.cell? (ad256.add ((x5_1).toNat * 4)) = some (.string ((rd_T130 l1 x5_1).f0)) ∧ w'.cell? ⟨(ad256.add ((x5_1).toNat * 4)).block, (ad256.add ((x5_1).toNat * 4)).off + 1, none⟩ = some (.slice A256_1 ((rd_T130 l1 x5_1).f1).length c256_1) ∧ w'.cell? ⟨(ad256.add ((x5_1).toNat * 4)).block, (ad256.add ((x5_1).toNat * 4)).off + 2, none⟩ = some (.slice A256_2 ((rd_T130 l1 x5_1).f2).length c256_2) ∧ w'.cell? ⟨(ad256.add ((x5_1).toNat * 4)).block, (ad256.add ((x5_1).toNat * 4)).off + 3, none⟩ = some (.int .i64 ((rd_T130 l1 x5_1).f3))) (ds := []) #[false, false, false, false, false, false, false, false, false, false] (by kernel_rfl) rfl rfl ⟨(Bw_ hw255_0 HB), (Bw_ hw255_1 HB), (Bw_ hw255_2 HB), (Bw_ hw255_3 HB), (Bw_ hw256_0 HB), (Bw_ hw256_1 HB), (Bw_ hw256_2 HB), (Bw_ hw256_3 HB)⟩ (fun hHeld => ?_); refine with_tabW laws_eqProcessS.tab6 laws_eqProcessS.bits6 (fun HT_ HW_ => ?_)
        generalize wr.drew = w11 at HB HR255_1 HR255_2 HR256_1 HR256_2 hx255_0 hx255_1 hx255_2 hx255_3 hx256_0 hx256_1 hx256_2 hx256_3 hHeld ⊢
        refine Pu_ 0 (some 17) HT_ ?_
        refine Pu_ 1 (some 18) HT_ ?_
        refine Pu_ 2 (some 19) HT_ ?_
        refine Pu_ 4 (some 21) HT_ ?_
        refine Pu_ 5 (some 22) HT_ ?_
        refine Pu_ 6 (some 23) HT_ ?_
        refine Tk_ 3 (some 20) HT_ HW_ hHeld ?_
        refine Tk_ 7 (some 24) HT_ HW_ hHeld ?_
        refine On_ 8 (some 25) HT_ (fun K hK => ?_)
        refine Gs_ Try.func134 ((laws_eqProcess.calls k1 ((rd_T130 l0 x5_1).f0) _ _ ((rd_T130 l0 x5_1).f1) _ _ ((rd_T130 l0 x5_1).f2) ((rd_T130 l0 x5_1).f3) ((rd_T130 l1 x5_1).f0) _ _ ((rd_T130 l1 x5_1).f1) _ _ ((rd_T130 l1 x5_1).f2) ((rd_T130 l1 x5_1).f3) false _ (Sc_ HR255_1 HB) HC255_1.out (Sc_ HR255_2 HB) HC255_2.out (Sc_ HR256_1 HB) HC256_1.out (Sc_ HR256_2 HB) HC256_2.out A7.out).mono ?_)
        rintro e w12 ⟨rfl, hb⟩
        refine ⟨_, rfl, ?_⟩
        replace HB := Hs_ HB hb
        clear hb
        refine hK.out _ _ ⟨(Bw_ hw255_0 HB), (Bw_ hw255_1 HB), (Bw_ hw255_2 HB), (Bw_ hw255_3 HB), (Bw_ hw256_0 HB), (Bw_ hw256_1 HB), (Bw_ hw256_2 HB), (Bw_ hw256_3 HB)⟩ (fun hHeld => ?_)
        clear hK K
        refine No_ (some 25) ?_
        refine Pu_ 9 (some 26) HT_ ?_
        refine done_ (done_of HT_.out (by kernel_rfl)) ?_
        try go_wp2
        go_ret
        exact ⟨Re_, Hf_ HB⟩
      ·rw [if_neg c6] at H
       exact absurd H (by simp)
     ·rw [if_neg c5] at H
      exact absurd H (by simp)
    ·rw [if_neg c4] at H
     have c4b0 := decide_eq_false c4
     clear c4
     obtain rfl := Option.some.inj H
     go_wp2
     go_ret
     exact ⟨Re_, Hf_ HB⟩
 ·rw [if_neg c3] at H
  have c3b0 := beq_eq_false_iff_ne.mpr c3
  have c3b1 := bne_iff_ne.mpr c3
  have c3b2 : (l0.length == l1.length) = false := by first | simpa using c3 | (simp at c3 ⊢; omega)
  obtain rfl := Option.some.inj H
  go_enter Try.func101, Try.ntmps101
  go_wp2
  go_ret
  exact ⟨Re_, Hf_ HB⟩

/-! ### laws_eqProgram: function 48 -/
def laws_eqProgram.f (k : Nat) (l0_0 : List (S132)) (l0_1 : List (S114)) (l0_2 : List (S130)) (l1_0 : List (S132)) (l1_1 : List (S114)) (l1_2 : List (S130)) : Option (Bool) := (laws_eqNodeS.f k l0_0 l1_0).bind fun t260 => (if t260 = true then ((laws_eqMonitorS.f k l0_1 l1_1).bind fun t261 => (if t261 = true then ((laws_eqProcessS.f k l0_2 l1_2).bind fun t262 => (if t262 = true then (some true) else (some false))) else (some false))) else (some false))
theorem laws_eqProgram.calls (k : Nat) (A0_0 : Option Addr) (c0_0 : Nat) (l0_0 : List (S132)) (A0_1 : Option Addr) (c0_1 : Nat) (l0_1 : List (S114)) (A0_2 : Option Addr) (c0_2 : Nat) (l0_2 : List (S130)) (A1_0 : Option Addr) (c1_0 : Nat) (l1_0 : List (S132)) (A1_1 : Option Addr) (c1_1 : Nat) (l1_1 : List (S114)) (A1_2 : Option Addr) (c1_2 : Nat) (l1_2 : List (S130)) (r : Bool) (w : World) (hr0_0 : Kd.C k132 w A0_0 l0_0.length l0_0) (hc0_0 : l0_0.length ≤ c0_0) (hr0_1 : Kd.C k114 w A0_1 l0_1.length l0_1) (hc0_1 : l0_1.length ≤ c0_1) (hr0_2 : Kd.C k130 w A0_2 l0_2.length l0_2) (hc0_2 : l0_2.length ≤ c0_2) (hr1_0 : Kd.C k132 w A1_0 l1_0.length l1_0) (hc1_0 : l1_0.length ≤ c1_0) (hr1_1 : Kd.C k114 w A1_1 l1_1.length l1_1) (hc1_1 : l1_1.length ≤ c1_1) (hr1_2 : Kd.C k130 w A1_2 l1_2.length l1_2) (hc1_2 : l1_2.length ≤ c1_2) (h : laws_eqProgram.f k l0_0 l0_1 l0_2 l1_0 l1_1 l1_2 = some r) :
  Calls Try.prog 48 #[.agg #[.slice A0_0 l0_0.length c0_0, .slice A0_1 l0_1.length c0_1, .slice A0_2 l0_2.length c0_2], .agg #[.slice A1_0 l1_0.length c1_0, .slice A1_1 l1_1.length c1_1, .slice A1_2 l1_2.length c1_2]] w fun e w' => e = .returned (.bool r) ∧ Below w.heap.size w w' := by
 have hu73 := Try.underlying73
 have HR0_0 := Aside0.mk hr0_0
 have HC0_0 := Aside0.mk hc0_0
 clear hr0_0 hc0_0
 have HR0_1 := Aside0.mk hr0_1
 have HC0_1 := Aside0.mk hc0_1
 clear hr0_1 hc0_1
 have HR0_2 := Aside0.mk hr0_2
 have HC0_2 := Aside0.mk hc0_2
 clear hr0_2 hc0_2
 have HR1_0 := Aside0.mk hr1_0
 have HC1_0 := Aside0.mk hc1_0
 clear hr1_0 hc1_0
 have HR1_1 := Aside0.mk hr1_1
 have HC1_1 := Aside0.mk hc1_1
 clear hr1_1 hc1_1
 have HR1_2 := Aside0.mk hr1_2
 have HC1_2 := Aside0.mk hc1_2
 clear hr1_2 hc1_2
 have HB := Aside0.mk (Below.refl w.heap.size w)
 have H : ((laws_eqNodeS.f k l0_0 l1_0).bind fun t260 => (if t260 = true then ((laws_eqMonitorS.f k l0_1 l1_1).bind fun t261 => (if t261 = true then ((laws_eqProcessS.f k l0_2 l1_2).bind fun t262 => (if t262 = true then (some true) else (some false))) else (some false))) else (some false))) = some r := h
 clear h
 obtain ⟨t260, A3, H⟩ := Bo_ H
 by_cases c4 : t260 = true
 ·subst c4
  rw [if_pos rfl] at H
  obtain ⟨t261, A5, H⟩ := Bo_ H
  by_cases c6 : t261 = true
  ·subst c6
   rw [if_pos rfl] at H
   obtain ⟨t262, A7, H⟩ := Bo_ H
   by_cases c8 : t262 = true
   ·subst c8
    rw [if_pos rfl] at H
    obtain rfl := Option.some.inj H
    go_enter Try.func48, Try.ntmps48
    go_wp2_with (first | (refine Bv_ 2 #[.slice A0_0 l0_0.length c0_0, .slice A0_1 l0_1.length c0_1, .slice A0_2 l0_2.length c0_2] 73 ?_; intro gb258 hg w9 BK258 hb; have GW258 := Hg_ HB hg; replace HB := Hs_ HB hb; clear hb hg) | (refine Bv_ 3 #[.slice A1_0 l1_0.length c1_0, .slice A1_1 l1_1.length c1_1, .slice A1_2 l1_2.length c1_2] 73 ?_; intro gb259 hg w10 BK259 hb; have GW259 := Hg_ HB hg; have NB258_259 := Bl_ BK258 hg; have NB259_258 := Bm_ NB258_259; replace BK258 := Bb_ BK258 hb; replace HB := Hs_ HB hb; clear hb hg; have hnb11 := NB258_259.out; have hnc11 := NB259_258.out; obtain ⟨hcz12_0, hcz12_1, hcz12_2, hfz12_0, hfz12_1, hfz12_2⟩ := Bc3_ BK258; obtain ⟨hcz13_0, hcz13_1, hcz13_2, hfz13_0, hfz13_1, hfz13_2⟩ := Bc3_ BK259) | (refine Gl_ (some 9) Try.func99 ((laws_eqNodeS.calls k _ _ l0_0 _ _ l1_0 true _ (Sc_ HR0_0 HB) HC0_0.out (Sc_ HR1_0 HB) HC1_0.out A3.out).mono ?_); rintro e w14 ⟨rfl, hb⟩; refine ⟨_, rfl, ?_⟩; replace BK258 := Bb_ BK258 hb; replace BK259 := Bb_ BK259 hb; replace HB := Hs_ HB hb; clear hb; obtain ⟨hcz15_0, hcz15_1, hcz15_2, hfz15_0, hfz15_1, hfz15_2⟩ := Bc3_ BK258; obtain ⟨hcz16_0, hcz16_1, hcz16_2, hfz16_0, hfz16_1, hfz16_2⟩ := Bc3_ BK259) | (refine Gl_ (some 15) Try.func100 ((laws_eqMonitorS.calls k _ _ l0_1 _ _ l1_1 true _ (Sc_ HR0_1 HB) HC0_1.out (Sc_ HR1_1 HB) HC1_1.out A5.out).mono ?_); rintro e w17 ⟨rfl, hb⟩; refine ⟨_, rfl, ?_⟩; replace BK258 := Bb_ BK258 hb; replace BK259 := Bb_ BK259 hb; replace HB := Hs_ HB hb; clear hb; obtain ⟨hcz18_0, hcz18_1, hcz18_2, hfz18_0, hfz18_1, hfz18_2⟩ := Bc3_ BK258; obtain ⟨hcz19_0, hcz19_1, hcz19_2, hfz19_0, hfz19_1, hfz19_2⟩ := Bc3_ BK259) | (refine Gl_ (some 21) Try.func101 ((laws_eqProcessS.calls k _ _ l0_2 _ _ l1_2 true _ (Sc_ HR0_2 HB) HC0_2.out (Sc_ HR1_2 HB) HC1_2.out A7.out).mono ?_); rintro e w20 ⟨rfl, hb⟩; refine ⟨_, rfl, ?_⟩; replace BK258 := Bb_ BK258 hb; replace BK259 := Bb_ BK259 hb; replace HB := Hs_ HB hb; clear hb))
    go_ret
    exact ⟨Re_, Hf_ HB⟩
   ·replace c8 := Bool.eq_false_iff.mpr c8
    subst c8
    rw [if_neg Ff_] at H
    obtain rfl := Option.some.inj H
    go_enter Try.func48, Try.ntmps48
    go_wp2_with (first | (refine Bv_ 2 #[.slice A0_0 l0_0.length c0_0, .slice A0_1 l0_1.length c0_1, .slice A0_2 l0_2.length c0_2] 73 ?_; intro gb258 hg w21 BK258 hb; have GW258 := Hg_ HB hg; replace HB := Hs_ HB hb; clear hb hg) | (refine Bv_ 3 #[.slice A1_0 l1_0.length c1_0, .slice A1_1 l1_1.length c1_1, .slice A1_2 l1_2.length c1_2] 73 ?_; intro gb259 hg w22 BK259 hb; have GW259 := Hg_ HB hg; have NB258_259 := Bl_ BK258 hg; have NB259_258 := Bm_ NB258_259; replace BK258 := Bb_ BK258 hb; replace HB := Hs_ HB hb; clear hb hg; have hnb23 := NB258_259.out; have hnc23 := NB259_258.out; obtain ⟨hcz24_0, hcz24_1, hcz24_2, hfz24_0, hfz24_1, hfz24_2⟩ := Bc3_ BK258; obtain ⟨hcz25_0, hcz25_1, hcz25_2, hfz25_0, hfz25_1, hfz25_2⟩ := Bc3_ BK259) | (refine Gl_ (some 9) Try.func99 ((laws_eqNodeS.calls k _ _ l0_0 _ _ l1_0 true _ (Sc_ HR0_0 HB) HC0_0.out (Sc_ HR1_0 HB) HC1_0.out A3.out).mono ?_); rintro e w26 ⟨rfl, hb⟩; refine ⟨_, rfl, ?_⟩; replace BK258 := Bb_ BK258 hb; replace BK259 := Bb_ BK259 hb; replace HB := Hs_ HB hb; clear hb; obtain ⟨hcz27_0, hcz27_1, hcz27_2, hfz27_0, hfz27_1, hfz27_2⟩ := Bc3_ BK258; obtain ⟨hcz28_0, hcz28_1, hcz28_2, hfz28_0, hfz28_1, hfz28_2⟩ := Bc3_ BK259) | (refine Gl_ (some 15) Try.func100 ((laws_eqMonitorS.calls k _ _ l0_1 _ _ l1_1 true _ (Sc_ HR0_1 HB) HC0_1.out (Sc_ HR1_1 HB) HC1_1.out A5.out).mono ?_); rintro e w29 ⟨rfl, hb⟩; refine ⟨_, rfl, ?_⟩; replace BK258 := Bb_ BK258 hb; replace BK259 := Bb_ BK259 hb; replace HB := Hs_ HB hb; clear hb; obtain ⟨hcz30_0, hcz30_1, hcz30_2, hfz30_0, hfz30_1, hfz30_2⟩ := Bc3_ BK258; obtain ⟨hcz31_0, hcz31_1, hcz31_2, hfz31_0, hfz31_1, hfz31_2⟩ := Bc3_ BK259) | (refine Gl_ (some 21) Try.func101 ((laws_eqProcessS.calls k _ _ l0_2 _ _ l1_2 false _ (Sc_ HR0_2 HB) HC0_2.out (Sc_ HR1_2 HB) HC1_2.out A7.out).mono ?_); rintro e w32 ⟨rfl, hb⟩; refine ⟨_, rfl, ?_⟩; replace BK258 := Bb_ BK258 hb; replace BK259 := Bb_ BK259 hb; replace HB := Hs_ HB hb; clear hb))
    go_ret
    exact ⟨Re_, Hf_ HB⟩
  ·replace c6 := Bool.eq_false_iff.mpr c6
   subst c6
   rw [if_neg Ff_] at H
   obtain rfl := Option.some.inj H
   go_enter Try.func48, Try.ntmps48
   go_wp2_with (first | (refine Bv_ 2 #[.slice A0_0 l0_0.length c0_0, .slice A0_1 l0_1.length c0_1, .slice A0_2 l0_2.length c0_2] 73 ?_; intro gb258 hg w33 BK258 hb; have GW258 := Hg_ HB hg; replace HB := Hs_ HB hb; clear hb hg) | (refine Bv_ 3 #[.slice A1_0 l1_0.length c1_0, .slice A1_1 l1_1.length c1_1, .slice A1_2 l1_2.length c1_2] 73 ?_; intro gb259 hg w34 BK259 hb; have GW259 := Hg_ HB hg; have NB258_259 := Bl_ BK258 hg; have NB259_258 := Bm_ NB258_259; replace BK258 := Bb_ BK258 hb; replace HB := Hs_ HB hb; clear hb hg; have hnb35 := NB258_259.out; have hnc35 := NB259_258.out; obtain ⟨hcz36_0, hcz36_1, hcz36_2, hfz36_0, hfz36_1, hfz36_2⟩ := Bc3_ BK258; obtain ⟨hcz37_0, hcz37_1, hcz37_2, hfz37_0, hfz37_1, hfz37_2⟩ := Bc3_ BK259) | (refine Gl_ (some 9) Try.func99 ((laws_eqNodeS.calls k _ _ l0_0 _ _ l1_0 true _ (Sc_ HR0_0 HB) HC0_0.out (Sc_ HR1_0 HB) HC1_0.out A3.out).mono ?_); rintro e w38 ⟨rfl, hb⟩; refine ⟨_, rfl, ?_⟩; replace BK258 := Bb_ BK258 hb; replace BK259 := Bb_ BK259 hb; replace HB := Hs_ HB hb; clear hb; obtain ⟨hcz39_0, hcz39_1, hcz39_2, hfz39_0, hfz39_1, hfz39_2⟩ := Bc3_ BK258; obtain ⟨hcz40_0, hcz40_1, hcz40_2, hfz40_0, hfz40_1, hfz40_2⟩ := Bc3_ BK259) | (refine Gl_ (some 15) Try.func100 ((laws_eqMonitorS.calls k _ _ l0_1 _ _ l1_1 false _ (Sc_ HR0_1 HB) HC0_1.out (Sc_ HR1_1 HB) HC1_1.out A5.out).mono ?_); rintro e w41 ⟨rfl, hb⟩; refine ⟨_, rfl, ?_⟩; replace BK258 := Bb_ BK258 hb; replace BK259 := Bb_ BK259 hb; replace HB := Hs_ HB hb; clear hb))
   go_ret
   exact ⟨Re_, Hf_ HB⟩
 ·replace c4 := Bool.eq_false_iff.mpr c4
  subst c4
  rw [if_neg Ff_] at H
  obtain rfl := Option.some.inj H
  go_enter Try.func48, Try.ntmps48
  go_wp2_with (first | (refine Bv_ 2 #[.slice A0_0 l0_0.length c0_0, .slice A0_1 l0_1.length c0_1, .slice A0_2 l0_2.length c0_2] 73 ?_; intro gb258 hg w42 BK258 hb; have GW258 := Hg_ HB hg; replace HB := Hs_ HB hb; clear hb hg) | (refine Bv_ 3 #[.slice A1_0 l1_0.length c1_0, .slice A1_1 l1_1.length c1_1, .slice A1_2 l1_2.length c1_2] 73 ?_; intro gb259 hg w43 BK259 hb; have GW259 := Hg_ HB hg; have NB258_259 := Bl_ BK258 hg; have NB259_258 := Bm_ NB258_259; replace BK258 := Bb_ BK258 hb; replace HB := Hs_ HB hb; clear hb hg; have hnb44 := NB258_259.out; have hnc44 := NB259_258.out; obtain ⟨hcz45_0, hcz45_1, hcz45_2, hfz45_0, hfz45_1, hfz45_2⟩ := Bc3_ BK258; obtain ⟨hcz46_0, hcz46_1, hcz46_2, hfz46_0, hfz46_1, hfz46_2⟩ := Bc3_ BK259) | (refine Gl_ (some 9) Try.func99 ((laws_eqNodeS.calls k _ _ l0_0 _ _ l1_0 false _ (Sc_ HR0_0 HB) HC0_0.out (Sc_ HR1_0 HB) HC1_0.out A3.out).mono ?_); rintro e w47 ⟨rfl, hb⟩; refine ⟨_, rfl, ?_⟩; replace BK258 := Bb_ BK258 hb; replace BK259 := Bb_ BK259 hb; replace HB := Hs_ HB hb; clear hb))
  go_ret
  exact ⟨Re_, Hf_ HB⟩

/-! ### laws_FnExactMonitorAt: function 9 -/
def laws_FnExactMonitorAt.f (k : Nat) (l0_0 : List (S148)) (l0_1 : List (S152)) (l0_2 : List (S154)) (a1 : ByteArray) : Option (Bool) := if (a1.size : Int) > 1048576 then (some true) else ((laws_szProgram.f k l0_0 l0_1 l0_2 1048576).bind fun t264 => (if t264 < 0 then (some true) else ((laws_toProgram.f k l0_0 l0_1 l0_2).bind fun bt265 => ((spec_MonitorAt.f k bt265.1 bt265.2.1 bt265.2.2 a1).bind fun t274 => ((laws_toProgram.f k l0_0 l0_1 l0_2).bind fun bt275 => ((impl_MonitorAt.f bt275.1 bt275.2.1 bt275.2.2 a1).bind fun t285 => (if t285 = t274 then ((laws_toProgram.f k l0_0 l0_1 l0_2).bind fun bt286 => ((laws_eqProgram.f k bt275.1 bt275.2.1 bt275.2.2 bt286.1 bt286.2.1 bt286.2.2).bind fun t295 => (if t295 = true then (some true) else (some false)))) else (some false))))))))
theorem laws_FnExactMonitorAt.calls (k : Nat) (A0_0 : Option Addr) (c0_0 : Nat) (l0_0 : List (S148)) (A0_1 : Option Addr) (c0_1 : Nat) (l0_1 : List (S152)) (A0_2 : Option Addr) (c0_2 : Nat) (l0_2 : List (S154)) (a1 : ByteArray) (r : Bool) (w : World) (hr0_0 : Kd.C k148 w A0_0 l0_0.length l0_0) (hc0_0 : l0_0.length ≤ c0_0) (hr0_1 : Kd.C k152 w A0_1 l0_1.length l0_1) (hc0_1 : l0_1.length ≤ c0_1) (hr0_2 : Kd.C k154 w A0_2 l0_2.length l0_2) (hc0_2 : l0_2.length ≤ c0_2) (hlaw_ : Aside0 (r = true)) (h : laws_FnExactMonitorAt.f k l0_0 l0_1 l0_2 a1 = some r) :
  Calls Try.prog 9 #[.agg #[.slice A0_0 l0_0.length c0_0, .slice A0_1 l0_1.length c0_1, .slice A0_2 l0_2.length c0_2], .string a1] w fun e w' => e = .returned (.bool r) ∧ Below w.heap.size w w' := by
 have hu66 := Try.underlying66
 have hu73 := Try.underlying73
 have HR0_0 := Aside0.mk hr0_0
 have HC0_0 := Aside0.mk hc0_0
 clear hr0_0 hc0_0
 have HR0_1 := Aside0.mk hr0_1
 have HC0_1 := Aside0.mk hc0_1
 clear hr0_1 hc0_1
 have HR0_2 := Aside0.mk hr0_2
 have HC0_2 := Aside0.mk hc0_2
 clear hr0_2 hc0_2
 have HB := Aside0.mk (Below.refl w.heap.size w)
 have H : (if (a1.size : Int) > 1048576 then (some true) else ((laws_szProgram.f k l0_0 l0_1 l0_2 1048576).bind fun t264 => (if t264 < 0 then (some true) else ((laws_toProgram.f k l0_0 l0_1 l0_2).bind fun bt265 => ((spec_MonitorAt.f k bt265.1 bt265.2.1 bt265.2.2 a1).bind fun t274 => ((laws_toProgram.f k l0_0 l0_1 l0_2).bind fun bt275 => ((impl_MonitorAt.f bt275.1 bt275.2.1 bt275.2.2 a1).bind fun t285 => (if t285 = t274 then ((laws_toProgram.f k l0_0 l0_1 l0_2).bind fun bt286 => ((laws_eqProgram.f k bt275.1 bt275.2.1 bt275.2.2 bt286.1 bt286.2.1 bt286.2.2).bind fun t295 => (if t295 = true then (some true) else (some false)))) else (some false))))))))) = some r := h
 clear h
 by_cases c3 : (a1.size : Int) > 1048576
 ·rw [if_pos c3] at H
  have c3b0 : decide (1048576 < (a1.size : Int)) = true := decide_eq_true c3
  have c3b1 : decide (1048576 < a1.size) = true := decide_eq_true (by omega)
  clear c3
  obtain rfl := Option.some.inj H
  go_enter Try.func9, Try.ntmps9
  go_wp2_with (first | (refine Bv_ 2 #[.slice A0_0 l0_0.length c0_0, .slice A0_1 l0_1.length c0_1, .slice A0_2 l0_2.length c0_2] 66 ?_; intro gb263 hg w4 BK263 hb; have GW263 := Hg_ HB hg; replace HB := Hs_ HB hb; clear hb hg))
  go_ret
  exact ⟨Re_, Hf_ HB⟩
 ·rw [if_neg c3] at H
  have c3b0 : decide (1048576 < (a1.size : Int)) = false := decide_eq_false c3
  have c3b1 : decide (1048576 < a1.size) = false := decide_eq_false (by omega)
  clear c3
  obtain ⟨t264, A5, H⟩ := Bo_ H
  by_cases c6 : t264 < 0
  ·rw [if_pos c6] at H
   have c6b0 := decide_eq_true c6
   clear c6
   obtain rfl := Option.some.inj H
   go_enter Try.func9, Try.ntmps9
   go_wp2_with (first | (refine Bv_ 2 #[.slice A0_0 l0_0.length c0_0, .slice A0_1 l0_1.length c0_1, .slice A0_2 l0_2.length c0_2] 66 ?_; intro gb263 hg w7 BK263 hb; have GW263 := Hg_ HB hg; replace HB := Hs_ HB hb; clear hb hg; obtain ⟨hcz8_0, hcz8_1, hcz8_2, hfz8_0, hfz8_1, hfz8_2⟩ := Bc3_ BK263) | (refine Gl_ (some 14) Try.func44 ((laws_szProgram.calls k _ _ l0_0 _ _ l0_1 _ _ l0_2 1048576 t264 _ (Sc_ HR0_0 HB) HC0_0.out (Sc_ HR0_1 HB) HC0_1.out (Sc_ HR0_2 HB) HC0_2.out A5.out).mono ?_); rintro e w9 ⟨rfl, hb⟩; refine ⟨_, rfl, ?_⟩; replace BK263 := Bb_ BK263 hb; replace HB := Hs_ HB hb; clear hb))
   go_ret
   exact ⟨Re_, Hf_ HB⟩
  ·rw [if_neg c6] at H
   have c6b0 := decide_eq_false c6
   clear c6
   obtain ⟨⟨t265, t268, t271⟩, A10, H⟩ := Bo_ H
   try dsimp only at H
   obtain ⟨t274, A11, H⟩ := Bo_ H
   obtain ⟨⟨t275, t278, t281⟩, A12, H⟩ := Bo_ H
   try dsimp only at H
   obtain ⟨t285, A13, H⟩ := Bo_ H
   by_cases c14 : t285 = t274
   ·rw [if_pos c14] at H
    have c14b0 := beq_iff_eq.mpr c14
    have c14b1 := bne_eq_false_iff_eq.mpr c14
    clear c14
    obtain ⟨⟨t286, t289, t292⟩, A15, H⟩ := Bo_ H
    try dsimp only at H
    obtain ⟨t295, A16, H⟩ := Bo_ H
    by_cases c17 : t295 = true
    ·subst c17
     rw [if_pos rfl] at H
     obtain rfl := Option.some.inj H
     go_enter Try.func9, Try.ntmps9
     try go_wp2_with (first | (refine Bv_ 2 #[.slice A0_0 l0_0.length c0_0, .slice A0_1 l0_1.length c0_1, .slice A0_2 l0_2.length c0_2] 66 ?_; intro gb263 hg w18 BK263 hb; have GW263 := Hg_ HB hg; replace HB := Hs_ HB hb; clear hb hg; obtain ⟨hcz19_0, hcz19_1, hcz19_2, hfz19_0, hfz19_1, hfz19_2⟩ := Bc3_ BK263) | (refine Gl_ (some 14) Try.func44 ((laws_szProgram.calls k _ _ l0_0 _ _ l0_1 _ _ l0_2 1048576 t264 _ (Sc_ HR0_0 HB) HC0_0.out (Sc_ HR0_1 HB) HC0_1.out (Sc_ HR0_2 HB) HC0_2.out A5.out).mono ?_); rintro e w20 ⟨rfl, hb⟩; refine ⟨_, rfl, ?_⟩; replace BK263 := Bb_ BK263 hb; replace HB := Hs_ HB hb; clear hb; obtain ⟨hcz21_0, hcz21_1, hcz21_2, hfz21_0, hfz21_1, hfz21_2⟩ := Bc3_ BK263) | (refine Gl_ (some 18) Try.func46 ((laws_toProgram.calls k _ _ l0_0 _ _ l0_1 _ _ l0_2 t265 t268 t271 _ (Sc_ HR0_0 HB) HC0_0.out (Sc_ HR0_1 HB) HC0_1.out (Sc_ HR0_2 HB) HC0_2.out A10.out).mono ?_); rintro e w22 ⟨v266, v269, v272, rfl, ho0, ho1, ho2, hb⟩; refine ⟨_, rfl, ?_⟩; have HO267 := Aside0.mk (Kd.S_lower ho0 (below_size (Hf_ HB))); have HO270 := Aside0.mk (Kd.S_lower ho1 (below_size (Hf_ HB))); have HO273 := Aside0.mk (Kd.S_lower ho2 (below_size (Hf_ HB))); replace BK263 := Bb_ BK263 hb; replace HB := Hs_ HB hb; clear hb; (try clear ho0); (try clear ho1); (try clear ho2); obtain ⟨Ao23, co23, eo23⟩ := Kd.S_slice HO267.out; subst eo23; obtain ⟨Ao24, co24, eo24⟩ := Kd.S_slice HO270.out; subst eo24; obtain ⟨Ao25, co25, eo25⟩ := Kd.S_slice HO273.out; subst eo25) | (refine Gl_ (some 20) Try.func45 ((spec_MonitorAt.calls k _ _ t265 _ _ t268 _ _ t271 a1 t274 _ (Cq_ (Kd.S_reads' HO267.out).2.2) ((Kd.S_reads' HO267.out).2.1) (Cq_ (Kd.S_reads' HO270.out).2.2) ((Kd.S_reads' HO270.out).2.1) (Cq_ (Kd.S_reads' HO273.out).2.2) ((Kd.S_reads' HO273.out).2.1) A11.out).mono ?_); rintro e w26 ⟨rfl, hb⟩; refine ⟨_, rfl, ?_⟩; replace HO267 := Sb_ HO267 hb; replace HO270 := Sb_ HO270 hb; replace HO273 := Sb_ HO273 hb; replace BK263 := Bb_ BK263 hb; replace HB := Hs_ HB hb; clear hb; obtain ⟨hcz27_0, hcz27_1, hcz27_2, hfz27_0, hfz27_1, hfz27_2⟩ := Bc3_ BK263) | (refine Gl_ (some 22) Try.func46 ((laws_toProgram.calls k _ _ l0_0 _ _ l0_1 _ _ l0_2 t275 t278 t281 _ (Sc_ HR0_0 HB) HC0_0.out (Sc_ HR0_1 HB) HC0_1.out (Sc_ HR0_2 HB) HC0_2.out A12.out).mono ?_); rintro e w28 ⟨v276, v279, v282, rfl, ho0, ho1, ho2, hb⟩; refine ⟨_, rfl, ?_⟩; have HO277 := Aside0.mk (Kd.S_lower (Kd.S_new' ho0 (Kd.S_lt (by (with_reducible repeat (first | apply Kd.S_alloc | apply Kd.S_drewN | apply Kd.S_drew)); exact HO267.out))) (below_size (Hf_ HB))); have HO280 := Aside0.mk (Kd.S_lower (Kd.S_new' ho1 (Kd.S_lt (by (with_reducible repeat (first | apply Kd.S_alloc | apply Kd.S_drewN | apply Kd.S_drew)); exact HO270.out))) (below_size (Hf_ HB))); have HO283 := Aside0.mk (Kd.S_lower (Kd.S_new' ho2 (Kd.S_lt (by (with_reducible repeat (first | apply Kd.S_alloc | apply Kd.S_drewN | apply Kd.S_drew)); exact HO273.out))) (below_size (Hf_ HB))); replace HO267 := Aside0.mk (Kd.S_elder' (by (with_reducible repeat (first | apply Kd.S_alloc | apply Kd.S_drewN | apply Kd.S_drew)); exact HO267.out) (Kd.S_base ho0) hb); replace HO270 := Aside0.mk (Kd.S_elder' (by (with_reducible repeat (first | apply Kd.S_alloc | apply Kd.S_drewN | apply Kd.S_drew)); exact HO270.out) (Kd.S_base ho1) hb); replace HO273 := Aside0.mk (Kd.S_elder' (by (with_reducible repeat (first | apply Kd.S_alloc | apply Kd.S_drewN | apply Kd.S_drew)); exact HO273.out) (Kd.S_base ho2) hb); replace BK263 := Bb_ BK263 hb; replace HB := Hs_ HB hb; clear hb; (try clear ho0); (try clear ho1); (try clear ho2)) | (refine Bv_ 7 #[.slice none 0 0, .slice none 0 0, .slice none 0 0] 73 ?_; intro gb284 hg w29 BK284 hb; have GW284 := Hg_ HB hg; have NB263_284 := Bl_ BK263 hg; have NB284_263 := Bm_ NB263_284; replace HO267 := Sb_ HO267 hb; replace HO270 := Sb_ HO270 hb; replace HO273 := Sb_ HO273 hb; replace HO277 := Sb_ HO277 hb; replace HO280 := Sb_ HO280 hb; replace HO283 := Sb_ HO283 hb; replace BK263 := Bb_ BK263 hb; replace HB := Hs_ HB hb; clear hb hg; obtain ⟨Ao30, co30, eo30⟩ := Kd.S_slice HO277.out; subst eo30; have hnb31 := NB284_263.out; have hnc31 := NB263_284.out; obtain ⟨hcz32_0, hcz32_1, hcz32_2, hfz32_0, hfz32_1, hfz32_2⟩ := Bc3_ BK284; obtain ⟨Ao33, co33, eo33⟩ := Kd.S_slice HO280.out; subst eo33; obtain ⟨Ao34, co34, eo34⟩ := Kd.S_slice HO283.out; subst eo34) | ((with_reducible refine gate_callee (f := 47) rfl ?_); refine goesL_ (some 25) rfl rfl Try.func47 (by kernel_rfl) rfl #[.agg #[.slice Ao30 t275.length co30, .slice Ao33 t278.length co33, .slice Ao34 t281.length co34], .string a1] rfl Mp_ ?_; (with_reducible refine (impl_MonitorAt.calls _ _ t275 _ _ t278 _ _ t281 a1 t285 _ ?side1 ?side2 ?side3 ?side4 ?side5 ?side6 A13.out).mono ?_); (case side1 => refine (Kd.S_reads' (e := 132) (base := w.heap.size) (ok := fun k_ => (True ∧ some k_ ≠ (.slice Ao23 t265.length co23 : Value).ownBlock)) (n := t275.length) (c := co30) ?_).2.2; exact (by (with_reducible repeat (first | apply Kd.S_alloc | apply Kd.S_drewN | apply Kd.S_drew)); exact (Kd.S_mono (Kd.S_far (p := ⟨gb284, 2, none⟩) (Kd.S_far (p := ⟨gb284, 1, none⟩) (Kd.S_far (p := ⟨gb284, 0, none⟩) (Kd.S_types HO277.out BK284.out (by decide)) (fun _ hk => hk.2) (.slice Ao30 t275.length co30)) (fun _ hk => hk.2) (.slice Ao33 t278.length co33)) (fun _ hk => hk.2) (.slice Ao34 t281.length co34)) (fun _ h_ => h_.1)))); (case side2 => exact (Kd.S_reads' HO277.out).2.1); (case side3 => refine (Kd.S_reads' (e := 114) (base := w.heap.size) (ok := fun k_ => (True ∧ some k_ ≠ (.slice Ao24 t268.length co24 : Value).ownBlock)) (n := t278.length) (c := co33) ?_).2.2; exact (by (with_reducible repeat (first | apply Kd.S_alloc | apply Kd.S_drewN | apply Kd.S_drew)); exact (Kd.S_mono (Kd.S_far (p := ⟨gb284, 2, none⟩) (Kd.S_far (p := ⟨gb284, 1, none⟩) (Kd.S_far (p := ⟨gb284, 0, none⟩) (Kd.S_types HO280.out BK284.out (by decide)) (fun _ hk => hk.2) (.slice Ao30 t275.length co30)) (fun _ hk => hk.2) (.slice Ao33 t278.length co33)) (fun _ hk => hk.2) (.slice Ao34 t281.length co34)) (fun _ h_ => h_.1)))); (case side4 => exact (Kd.S_reads' HO280.out).2.1); (case side5 => refine (Kd.S_reads' (e := 130) (base := w.heap.size) (ok := fun k_ => (True ∧ some k_ ≠ (.slice Ao25 t271.length co25 : Value).ownBlock)) (n := t281.length) (c := co34) ?_).2.2; exact (by (with_reducible repeat (first | apply Kd.S_alloc | apply Kd.S_drewN | apply Kd.S_drew)); exact (Kd.S_mono (Kd.S_far (p := ⟨gb284, 2, none⟩) (Kd.S_far (p := ⟨gb284, 1, none⟩) (Kd.S_far (p := ⟨gb284, 0, none⟩) (Kd.S_types HO283.out BK284.out (by decide)) (fun _ hk => hk.2) (.slice Ao30 t275.length co30)) (fun _ hk => hk.2) (.slice Ao33 t278.length co33)) (fun _ hk => hk.2) (.slice Ao34 t281.length co34)) (fun _ h_ => h_.1)))); (case side6 => exact (Kd.S_reads' HO283.out).2.1); rintro e w35 ⟨rfl, hb⟩; refine ⟨_, rfl, ?_⟩; replace HO267 := Aside0.mk (Kd.S_below (by (with_reducible repeat (first | apply Kd.S_alloc | apply Kd.S_drewN | apply Kd.S_drew)); exact (Kd.S_mono (Kd.S_far (p := ⟨gb284, 2, none⟩) (Kd.S_far (p := ⟨gb284, 1, none⟩) (Kd.S_far (p := ⟨gb284, 0, none⟩) (Kd.S_types HO267.out BK284.out (by decide)) (fun _ hk => hk.2) (.slice Ao30 t275.length co30)) (fun _ hk => hk.2) (.slice Ao33 t278.length co33)) (fun _ hk => hk.2) (.slice Ao34 t281.length co34)) (fun _ h_ => h_.1))) hb); replace HO270 := Aside0.mk (Kd.S_below (by (with_reducible repeat (first | apply Kd.S_alloc | apply Kd.S_drewN | apply Kd.S_drew)); exact (Kd.S_mono (Kd.S_far (p := ⟨gb284, 2, none⟩) (Kd.S_far (p := ⟨gb284, 1, none⟩) (Kd.S_far (p := ⟨gb284, 0, none⟩) (Kd.S_types HO270.out BK284.out (by decide)) (fun _ hk => hk.2) (.slice Ao30 t275.length co30)) (fun _ hk => hk.2) (.slice Ao33 t278.length co33)) (fun _ hk => hk.2) (.slice Ao34 t281.length co34)) (fun _ h_ => h_.1))) hb); replace HO273 := Aside0.mk (Kd.S_below (by (with_reducible repeat (first | apply Kd.S_alloc | apply Kd.S_drewN | apply Kd.S_drew)); exact (Kd.S_mono (Kd.S_far (p := ⟨gb284, 2, none⟩) (Kd.S_far (p := ⟨gb284, 1, none⟩) (Kd.S_far (p := ⟨gb284, 0, none⟩) (Kd.S_types HO273.out BK284.out (by decide)) (fun _ hk => hk.2) (.slice Ao30 t275.length co30)) (fun _ hk => hk.2) (.slice Ao33 t278.length co33)) (fun _ hk => hk.2) (.slice Ao34 t281.length co34)) (fun _ h_ => h_.1))) hb); replace HO277 := Aside0.mk (Kd.S_below (by (with_reducible repeat (first | apply Kd.S_alloc | apply Kd.S_drewN | apply Kd.S_drew)); exact (Kd.S_mono (Kd.S_far (p := ⟨gb284, 2, none⟩) (Kd.S_far (p := ⟨gb284, 1, none⟩) (Kd.S_far (p := ⟨gb284, 0, none⟩) (Kd.S_types HO277.out BK284.out (by decide)) (fun _ hk => hk.2) (.slice Ao30 t275.length co30)) (fun _ hk => hk.2) (.slice Ao33 t278.length co33)) (fun _ hk => hk.2) (.slice Ao34 t281.length co34)) (fun _ h_ => h_.1))) hb); replace HO280 := Aside0.mk (Kd.S_below (by (with_reducible repeat (first | apply Kd.S_alloc | apply Kd.S_drewN | apply Kd.S_drew)); exact (Kd.S_mono (Kd.S_far (p := ⟨gb284, 2, none⟩) (Kd.S_far (p := ⟨gb284, 1, none⟩) (Kd.S_far (p := ⟨gb284, 0, none⟩) (Kd.S_types HO280.out BK284.out (by decide)) (fun _ hk => hk.2) (.slice Ao30 t275.length co30)) (fun _ hk => hk.2) (.slice Ao33 t278.length co33)) (fun _ hk => hk.2) (.slice Ao34 t281.length co34)) (fun _ h_ => h_.1))) hb); replace HO283 := Aside0.mk (Kd.S_below (by (with_reducible repeat (first | apply Kd.S_alloc | apply Kd.S_drewN | apply Kd.S_drew)); exact (Kd.S_mono (Kd.S_far (p := ⟨gb284, 2, none⟩) (Kd.S_far (p := ⟨gb284, 1, none⟩) (Kd.S_far (p := ⟨gb284, 0, none⟩) (Kd.S_types HO283.out BK284.out (by decide)) (fun _ hk => hk.2) (.slice Ao30 t275.length co30)) (fun _ hk => hk.2) (.slice Ao33 t278.length co33)) (fun _ hk => hk.2) (.slice Ao34 t281.length co34)) (fun _ h_ => h_.1))) hb); replace BK263 := Aside0.mk (blk_below (g := gb263) (o := .cells #[.slice A0_0 l0_0.length c0_0, .slice A0_1 l0_1.length c0_1, .slice A0_2 l0_2.length c0_2] 66 (0, 0)) (by (with_reducible repeat (first | refine blk_drewN ?_ _ | refine blk_drew ?_ | refine blk_alloc ?_ _)); refine blk_far ?_ NB263_284.out _; (with_reducible repeat (first | refine blk_drewN ?_ _ | refine blk_drew ?_ | refine blk_alloc ?_ _)); refine blk_far ?_ NB263_284.out _; (with_reducible repeat (first | refine blk_drewN ?_ _ | refine blk_drew ?_ | refine blk_alloc ?_ _)); refine blk_far ?_ NB263_284.out _; (with_reducible repeat (first | refine blk_drewN ?_ _ | refine blk_drew ?_ | refine blk_alloc ?_ _)); exact BK263.out) hb); replace BK284 := Aside0.mk (blk_below (g := gb284) (o := .cells #[.slice Ao30 t275.length co30, .slice Ao33 t278.length co33, .slice Ao34 t281.length co34] 73 (0, 0)) (by (with_reducible repeat (first | refine blk_drewN ?_ _ | refine blk_drew ?_ | refine blk_alloc ?_ _)); refine blk_put (cs := #[.slice Ao30 t275.length co30, .slice Ao33 t278.length co33, .slice none 0 0]) ?_ 2 _ rfl; (with_reducible repeat (first | refine blk_drewN ?_ _ | refine blk_drew ?_ | refine blk_alloc ?_ _)); refine blk_put (cs := #[.slice Ao30 t275.length co30, .slice none 0 0, .slice none 0 0]) ?_ 1 _ rfl; (with_reducible repeat (first | refine blk_drewN ?_ _ | refine blk_drew ?_ | refine blk_alloc ?_ _)); refine blk_put (cs := #[.slice none 0 0, .slice none 0 0, .slice none 0 0]) ?_ 0 _ rfl; (with_reducible repeat (first | refine blk_drewN ?_ _ | refine blk_drew ?_ | refine blk_alloc ?_ _)); exact BK284.out) hb); replace HB := Hs_ HB hb; clear hb))
     replace HO267 := Aside0.mk (Kd.S_drew HO267.out); replace HO270 := Aside0.mk (Kd.S_drew HO270.out); replace HO273 := Aside0.mk (Kd.S_drew HO273.out); replace HO277 := Aside0.mk (Kd.S_drew HO277.out); replace HO280 := Aside0.mk (Kd.S_drew HO280.out); replace HO283 := Aside0.mk (Kd.S_drew HO283.out); replace BK263 := Aside0.mk (blk_drew BK263.out); replace BK284 := Aside0.mk (blk_drew BK284.out); replace HB := Aside0.mk (below_drew1 HB.out)
     refine start_ (n := 5) (S := fun w' => w'.cell? ⟨gb284, 0, none⟩ = some (.slice Ao30 t275.length co30) ∧ w'.cell? ⟨gb284, 1, none⟩ = some (.slice Ao33 t278.length co33) ∧ w'.cell? ⟨gb284, 2, none⟩ = some (.slice Ao34 t281.length co34) ∧ w'.cell? ⟨gb263, 0, none⟩ = some (.slice A0_0 l0_0.length c0_0) ∧ w'.cell? ⟨gb263, 1, none⟩ = some (.slice A0_1 l0_1.length c0_1) ∧ w'.cell? ⟨gb263, 2, none⟩ = some (.slice A0_2 l0_2.length c0_2)) (ds := []) #[false, false, false, false, false] (by kernel_rfl) rfl rfl ⟨(blk_cell BK284.out 0).trans rfl, (blk_cell BK284.out 1).trans rfl, (blk_cell BK284.out 2).trans rfl, (blk_cell BK263.out 0).trans rfl, (blk_cell BK263.out 1).trans rfl, (blk_cell BK263.out 2).trans rfl⟩ (fun hHeld => ?_)
     generalize w35.drew = w36 at HO267 HO270 HO273 HO277 HO280 HO283 BK263 BK284 HB hHeld ⊢
     refine take_ (i := 0) (N := some 29) (v := ?_) (a' := ?_) #[true, false, false, false, false] rfl rfl (by kernel_rfl) (fun _ _ _ h => h) (Or.inl ⟨by rfl, ?_⟩) hHeld ?_ ?_
     rotate_left
     ·rintro w' ⟨s0, s1, s2, s3, s4, s5⟩
      go_simp
      with_reducible rfl
     rotate_left
     ·simp only [Act.put, List.setIfInBounds_toArray, List.set_cons_zero, List.set_cons_succ, i64_w, i32_w]
      rfl
     refine take_ (i := 1) (N := some 30) (v := ?_) (a' := ?_) #[true, true, false, false, false] rfl rfl (by kernel_rfl) (fun _ _ _ h => h) (Or.inl ⟨by rfl, ?_⟩) hHeld ?_ ?_
     rotate_left
     ·rintro w' ⟨s0, s1, s2, s3, s4, s5⟩
      go_simp
      with_reducible rfl
     rotate_left
     ·simp only [Act.put, List.setIfInBounds_toArray, List.set_cons_zero, List.set_cons_succ, i64_w, i32_w]
      rfl
     refine one_ (i := 2) (N := some 31) #[true, true, true, false, false] rfl rfl (by kernel_rfl) (by decide) (fun K hK => ?_)
     refine Gs_ Try.func46 ((laws_toProgram.calls k _ _ l0_0 _ _ l0_1 _ _ l0_2 t286 t289 t292 _ (Sc_ HR0_0 HB) HC0_0.out (Sc_ HR0_1 HB) HC0_1.out (Sc_ HR0_2 HB) HC0_2.out A15.out).mono ?_)
     rintro e w37 ⟨v287, v290, v293, rfl, ho0, ho1, ho2, hb⟩
     refine ⟨_, rfl, ?_⟩
     have HO288 := Aside0.mk (Kd.S_lower (Kd.S_new' (Kd.S_new' ho0 (Kd.S_lt (by (with_reducible repeat (first | apply Kd.S_alloc | apply Kd.S_drewN | apply Kd.S_drew)); exact HO267.out))) (Kd.S_lt (by (with_reducible repeat (first | apply Kd.S_alloc | apply Kd.S_drewN | apply Kd.S_drew)); exact HO277.out))) (below_size (Hf_ HB))); have HO291 := Aside0.mk (Kd.S_lower (Kd.S_new' (Kd.S_new' ho1 (Kd.S_lt (by (with_reducible repeat (first | apply Kd.S_alloc | apply Kd.S_drewN | apply Kd.S_drew)); exact HO270.out))) (Kd.S_lt (by (with_reducible repeat (first | apply Kd.S_alloc | apply Kd.S_drewN | apply Kd.S_drew)); exact HO280.out))) (below_size (Hf_ HB))); have HO294 := Aside0.mk (Kd.S_lower (Kd.S_new' (Kd.S_new' ho2 (Kd.S_lt (by (with_reducible repeat (first | apply Kd.S_alloc | apply Kd.S_drewN | apply Kd.S_drew)); exact HO273.out))) (Kd.S_lt (by (with_reducible repeat (first | apply Kd.S_alloc | apply Kd.S_drewN | apply Kd.S_drew)); exact HO283.out))) (below_size (Hf_ HB))); replace HO267 := Aside0.mk (Kd.S_elder' (by (with_reducible repeat (first | apply Kd.S_alloc | apply Kd.S_drewN | apply Kd.S_drew)); exact HO267.out) (Kd.S_base ho0) hb); replace HO270 := Aside0.mk (Kd.S_elder' (by (with_reducible repeat (first | apply Kd.S_alloc | apply Kd.S_drewN | apply Kd.S_drew)); exact HO270.out) (Kd.S_base ho1) hb); replace HO273 := Aside0.mk (Kd.S_elder' (by (with_reducible repeat (first | apply Kd.S_alloc | apply Kd.S_drewN | apply Kd.S_drew)); exact HO273.out) (Kd.S_base ho2) hb); replace HO277 := Aside0.mk (Kd.S_elder' (by (with_reducible repeat (first | apply Kd.S_alloc | apply Kd.S_drewN | apply Kd.S_drew)); exact HO277.out) (Kd.S_base ho0) hb); replace HO280 := Aside0.mk (Kd.S_elder' (by (with_reducible repeat (first | apply Kd.S_alloc | apply Kd.S_drewN | apply Kd.S_drew)); exact HO280.out) (Kd.S_base ho1) hb); replace HO283 := Aside0.mk (Kd.S_elder' (by (with_reducible repeat (first | apply Kd.S_alloc | apply Kd.S_drewN | apply Kd.S_drew)); exact HO283.out) (Kd.S_base ho2) hb); replace BK263 := Bb_ BK263 hb; replace BK284 := Bb_ BK284 hb; replace HB := Hs_ HB hb
     clear hb
     (try clear ho0)
     (try clear ho1)
     (try clear ho2)
     obtain ⟨Ao38, co38, eo38⟩ := Kd.S_slice HO288.out
     (first | subst eo38 | (injection eo38 with f1_ f2_ f3_; have f4_ := f1_.symm; have f5_ := f3_.symm; clear f1_ f2_ f3_; subst f4_; subst f5_))
     obtain ⟨Ao39, co39, eo39⟩ := Kd.S_slice HO291.out
     (first | subst eo39 | (injection eo39 with f1_ f2_ f3_; have f4_ := f1_.symm; have f5_ := f3_.symm; clear f1_ f2_ f3_; subst f4_; subst f5_))
     obtain ⟨Ao40, co40, eo40⟩ := Kd.S_slice HO294.out
     (first | subst eo40 | (injection eo40 with f1_ f2_ f3_; have f4_ := f1_.symm; have f5_ := f3_.symm; clear f1_ f2_ f3_; subst f4_; subst f5_))
     refine hK.out _ _ ⟨(blk_cell BK284.out 0).trans rfl, (blk_cell BK284.out 1).trans rfl, (blk_cell BK284.out 2).trans rfl, (blk_cell BK263.out 0).trans rfl, (blk_cell BK263.out 1).trans rfl, (blk_cell BK263.out 2).trans rfl⟩ (fun hHeld => ?_)
     clear hK K
     refine No_ (some 31) ?_
     refine one_ (i := 3) (N := some 32) #[true, true, true, true, false] rfl rfl (by kernel_rfl) (by decide) (fun K hK => ?_)
     refine Gs_ Try.func48 ((laws_eqProgram.calls k _ _ t275 _ _ t278 _ _ t281 _ _ t286 _ _ t289 _ _ t292 true _ (Cq_ (Kd.S_reads' HO277.out).2.2) ((Kd.S_reads' HO277.out).2.1) (Cq_ (Kd.S_reads' HO280.out).2.2) ((Kd.S_reads' HO280.out).2.1) (Cq_ (Kd.S_reads' HO283.out).2.2) ((Kd.S_reads' HO283.out).2.1) (Cq_ (Kd.S_reads' HO288.out).2.2) ((Kd.S_reads' HO288.out).2.1) (Cq_ (Kd.S_reads' HO291.out).2.2) ((Kd.S_reads' HO291.out).2.1) (Cq_ (Kd.S_reads' HO294.out).2.2) ((Kd.S_reads' HO294.out).2.1) A16.out).mono ?_)
     rintro e w41 ⟨rfl, hb⟩
     refine ⟨_, rfl, ?_⟩
     replace HO267 := Sb_ HO267 hb; replace HO270 := Sb_ HO270 hb; replace HO273 := Sb_ HO273 hb; replace HO277 := Sb_ HO277 hb; replace HO280 := Sb_ HO280 hb; replace HO283 := Sb_ HO283 hb; replace HO288 := Sb_ HO288 hb; replace HO291 := Sb_ HO291 hb; replace HO294 := Sb_ HO294 hb; replace BK263 := Bb_ BK263 hb; replace BK284 := Bb_ BK284 hb; replace HB := Hs_ HB hb
     clear hb
     refine hK.out _ _ ⟨(blk_cell BK284.out 0).trans rfl, (blk_cell BK284.out 1).trans rfl, (blk_cell BK284.out 2).trans rfl, (blk_cell BK263.out 0).trans rfl, (blk_cell BK263.out 1).trans rfl, (blk_cell BK263.out 2).trans rfl⟩ (fun hHeld => ?_)
     clear hK K
     refine No_ (some 32) ?_
     refine pure_ (i := 4) (N := some 33) (v := ?_) (a' := ?_) #[true, true, true, true, true] rfl rfl (by kernel_rfl) (fun _ _ _ h => h) (Or.inl ⟨by rfl, ?_⟩) ?_ ?_
     rotate_left
     ·intro w'
      go_simp
      with_reducible rfl
     rotate_left
     ·simp only [Act.put, List.setIfInBounds_toArray, List.set_cons_zero, List.set_cons_succ, i64_w, i32_w]
      rfl
     refine done_ (by kernel_rfl) ?_
     try go_wp2
     go_ret
     exact ⟨Re_, Hf_ HB⟩
    ·replace c17 := Bool.eq_false_iff.mpr c17
     subst c17
     rw [if_neg Ff_] at H
     exact absurd (Option.some.inj H) (by rw [hlaw_.out]; decide)
   ·rw [if_neg c14] at H
    have c14b0 := beq_eq_false_iff_ne.mpr c14
    have c14b1 := bne_iff_ne.mpr c14
    exact absurd (Option.some.inj H) (by rw [hlaw_.out]; decide)

end Go.Proofs.Ytegeahiflkjhmaa.PFnExactMonitorAt
