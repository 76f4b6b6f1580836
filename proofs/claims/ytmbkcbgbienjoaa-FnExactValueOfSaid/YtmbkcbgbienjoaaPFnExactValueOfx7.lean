/- The machine side of the law FnExactValueOf: for each function that it reaches, a Lean function and its contract. Written by a program of this session's over the kit's print. No condition. -/
import Derived.Test.YtmbkcbgbienjoaaCmq
import Derived.Test.YtmbkcbgbienjoaaPFnExactValueOfx0
import Derived.Test.YtmbkcbgbienjoaaPFnExactValueOfx1
import Derived.Test.YtmbkcbgbienjoaaPFnExactValueOfx4
import Derived.Test.YtmbkcbgbienjoaaPFnExactValueOfx6
namespace Go.Proofs.Ytmbkcbgbienjoaa.PFnExactValueOf
open Go.RowKit Go.Proofs.YtmbkcbgbienjoaaW.PrintWords Go.Proofs.YtmbkcbgbienjoaaW.PrintLast Go.Proofs.YtmbkcbgbienjoaaW.PrintMore Go.Proofs.Ytmbkcbgbienjoaa.Cmp
attribute [local go_sem] max2_int min2_int max_two min_two max_three min_three max_four min_four   -- for this text's walks alone
set_option linter.unusedVariables false
set_option maxHeartbeats 8000000
set_option maxRecDepth 100000
set_option linter.unusedSimpArgs false

/-! ### laws_eqProcessS: function 64 -/
def laws_eqProcessS.l0 : Nat → List (S103) → List (S103) → Int → Option (Bool)
 | 0, _, _, _ => none
 | k + 1, x0, x1, x5 => if x5 < (x0.length : Int) then (if 0 ≤ x5 then (if x5 < (x1.length : Int) then ((laws_eqProcess.f k ((rd_T103 x0 x5).f0) ((rd_T103 x0 x5).f1) ((rd_T103 x0 x5).f2) ((rd_T103 x0 x5).f3) ((rd_T103 x1 x5).f0) ((rd_T103 x1 x5).f1) ((rd_T103 x1 x5).f2) ((rd_T103 x1 x5).f3)).bind fun t254 => (if t254 = true then (laws_eqProcessS.l0 k x0 x1 (wrap64 (x5 + 1))) else (some false))) else (none)) else (none)) else (some true)
def laws_eqProcessS.f (k : Nat) (l0 : List (S103)) (l1 : List (S103)) : Option (Bool) := if (l0.length : Int) = (l1.length : Int) then (laws_eqProcessS.l0 k l0 l1 0) else (some false)
def laws_eqProcessS.T6 : Bool × List (List Nat × List Nat) := (true, [([], []), ([], []), ([0, 1], [0, 1]), ([2], [2]), ([], []), ([], []), ([4, 5], [4, 5]), ([6], [6]), ([3, 7], [3, 7]), ([8], [8])])
def laws_eqProcessS.B6 : List Nat := [0, 0, 3, 7, 0, 0, 48, 112, 255, 511]
theorem laws_eqProcessS.tab6 : rtab .any (opsOf Try.f64 6) = laws_eqProcessS.T6 := by kernel_rfl
theorem laws_eqProcessS.bits6 : waitsOk laws_eqProcessS.T6.2 laws_eqProcessS.B6 = true := by kernel_rfl
theorem laws_eqProcessS.calls (k : Nat) (A0 : Option Addr) (c0 : Nat) (l0 : List (S103)) (A1 : Option Addr) (c1 : Nat) (l1 : List (S103)) (r : Bool) (w : World) (hr0 : Kd.C k103 w A0 l0.length l0) (hc0 : l0.length ≤ c0) (hr1 : Kd.C k103 w A1 l1.length l1) (hc1 : l1.length ≤ c1) (h : laws_eqProcessS.f k l0 l1 = some r) :
  Calls Try.prog 64 #[.slice A0 l0.length c0, .slice A1 l1.length c1] w fun e w' => e = .returned (.bool r) ∧ Below w.heap.size w w' := by
 have hu103 := Try.underlying103
 have HR0 := Aside0.mk hr0
 have HC0 := Aside0.mk hc0
 clear hr0 hc0
 have HR1 := Aside0.mk hr1
 have HC1 := Aside0.mk hc1
 clear hr1 hc1
 have HB := Aside0.mk (Below.refl w.heap.size w)
 have H : (if (l0.length : Int) = (l1.length : Int) then (laws_eqProcessS.l0 k l0 l1 0) else (some false)) = some r := h
 clear h
 by_cases c3 : (l0.length : Int) = (l1.length : Int)
 ·rw [if_pos c3] at H
  have c3b0 := beq_iff_eq.mpr c3
  have c3b1 := bne_eq_false_iff_eq.mpr c3
  have c3b2 : (l0.length == l1.length) = true := by first | simpa using c3 | (simp at c3 ⊢; omega)
  clear c3
  have H' := Aside0.mk H
  clear H
  go_enter Try.func64, Try.ntmps64
  go_wp2
  go_loopg [5] k (fun kq v5 w' => ∃ (x5_1 : Int), v5 = .int .i64 x5_1 ∧ Aside0 (laws_eqProcessS.l0 kq l0 l1 x5_1 = some r) ∧ Aside0 (kq ≤ k) ∧ Aside0 (Below w.heap.size w w'))
  case atStart => exact ⟨(0), Rr_, H', ⟨Nat.le_refl _⟩, ⟨Hf_ HB⟩⟩
  case round =>
   clear H'
   clear c3b0 c3b1 c3b2
   obtain ⟨x5_1, rfl, HA, HK1, HB⟩ := hrel
   cases gk with
   | zero => exact absurd HA.out (by simp [laws_eqProcessS.l0])
   | succ k1 =>
    have H := HA.out
    clear HA
    simp only [laws_eqProcessS.l0] at H
    by_cases c4 : x5_1 < (l0.length : Int)
    ·rw [if_pos c4] at H
     have c4b0 := decide_eq_true c4
     clear c4
     by_cases c5 : 0 ≤ x5_1
     ·rw [if_pos c5] at H
      have c5b0 := decide_eq_true c5
      clear c5
      by_cases c6 : x5_1 < (l1.length : Int)
      ·rw [if_pos c6] at H
       have c6b0 := decide_eq_true c6
       clear c6
       obtain ⟨t254, A7, H⟩ := Bo_ H
       by_cases c8 : t254 = true
       ·subst c8
        rw [if_pos rfl] at H
        have H' := Aside0.mk H
        clear H
        try go_wp2
        replace HB := Aside0.mk (below_drew1 HB.out)
        have p252 : 0 ≤ (x5_1 : Int) := of_decide_eq_true As_
        have q252 : x5_1 < (l0.length : Int) := of_decide_eq_true As_
        obtain ⟨ad252, A252_1, c252_1, A252_2, c252_2, e252, hx252_0, hx252_1, hx252_2, hx252_3, hl252_1, hi252_1, hl252_2, hi252_2⟩ := at_T103 HR0.out x5_1 p252 q252
        have hw252_3 := hx252_3
        have hw252_2 := hx252_2
        have hw252_1 := hx252_1
        have hw252_0 := hx252_0
        cases e252
        replace hx252_0 := Bw_ hx252_0 HB
        replace hx252_1 := Bw_ hx252_1 HB
        replace hx252_2 := Bw_ hx252_2 HB
        replace hx252_3 := Bw_ hx252_3 HB
        have HR252_1 := Aside0.mk hi252_1
        have HC252_1 := Aside0.mk hl252_1
        clear hi252_1 hl252_1
        have HR252_2 := Aside0.mk hi252_2
        have HC252_2 := Aside0.mk hl252_2
        clear hi252_2 hl252_2
        replace p252 := eq_true p252
        replace q252 := eq_true q252
        have p253 : 0 ≤ (x5_1 : Int) := of_decide_eq_true As_
        have q253 : x5_1 < (l1.length : Int) := of_decide_eq_true As_
        obtain ⟨ad253, A253_1, c253_1, A253_2, c253_2, e253, hx253_0, hx253_1, hx253_2, hx253_3, hl253_1, hi253_1, hl253_2, hi253_2⟩ := at_T103 HR1.out x5_1 p253 q253
        have hw253_3 := hx253_3
        have hw253_2 := hx253_2
        have hw253_1 := hx253_1
        have hw253_0 := hx253_0
        cases e253
        replace hx253_0 := Bw_ hx253_0 HB
        replace hx253_1 := Bw_ hx253_1 HB
        replace hx253_2 := Bw_ hx253_2 HB
        replace hx253_3 := Bw_ hx253_3 HB
        have HR253_1 := Aside0.mk hi253_1
        have HC253_1 := Aside0.mk hl253_1
        clear hi253_1 hl253_1
        have HR253_2 := Aside0.mk hi253_2
        have HC253_2 := Aside0.mk hl253_2
        clear hi253_2 hl253_2
        replace p253 := eq_true p253
        replace q253 := eq_true q253
        refine start_ (n := 10) (S := fun w' => w'.cell? (ad252.add ((x5_1).toNat * 4)) = some (.string ((rd_T103 l0 x5_1).f0)) ∧ w'.cell? ⟨(ad252.add ((x5_1).toNat * 4)).block, (ad252.add ((x5_1).toNat * 4)).off + 1, none⟩ = some (.slice A252_1 ((rd_T103 l0 x5_1).f1).length c252_1) ∧ w'.cell? ⟨(ad252.add ((x5_1).toNat * 4)).block, (ad252.add ((x5_1).toNat * 4)).off + 2, none⟩ = some (.slice A252_2 ((rd_T103 l0 x5_1).f2).length c252_2) ∧ w'.cell? ⟨(ad252.add ((x5_1).toNat * 4)).block, (ad252.add ((x5_1).toNat * 4)).off + 3, none⟩ = some (.int .i64 ((rd_T103 l0 x5_1).f3)) ∧ w'.cell? (ad253.add ((x5_1).toNat * 4)) = some (.string ((rd_T103 l1 x5_1).f0)) ∧ w'.cell? ⟨(ad253.add ((x5_1).toNat * 4)).block, (ad253.add ((x5_1).toNat * 4)).off + 1, none⟩ = some (.slice A253_1 ((rd_T103 l1 x5_1).f1).length c253_1) ∧ w'.cell? ⟨(ad253.add ((x5_1).toNat * 4)).block, (ad253.add ((x5_1).toNat * 4)).off + 2, none⟩ = some (.slice A253_2 ((rd_T103 l1 x5_1).f2).length c253_2) ∧ w'.cell? ⟨(ad253.add ((x5_1).toNat * 4)).block, (ad253.add ((x5_1).toNat * 4)).off + 3, none⟩ = some (.int .i64 ((rd_T103 l1 x5_1).f3))) (ds := []) #[false, false, false, false, false, false, false, false, false, false] (by kernel_rfl) rfl rfl ⟨(Bw_ hw252_0 HB), (Bw_ hw252_1 HB), (Bw_ hw252_2 HB), (Bw_ hw252_3 HB), (Bw_ hw253_0 HB), (Bw_ hw253_1 HB), (Bw_ hw253_2 HB), (Bw_ hw253_3 HB)⟩ (fun hHeld => ?_); refine with_tabW laws_eqProcessS.tab6 laws_eqProcessS.bits6 (fun HT_ HW_ => ?_)
        generalize wr.drew = w9 at HB HR252_1 HR252_2 HR253_1 HR253_2 hx252_0 hx252_1 hx252_2 hx252_3 hx253_0 hx253_1 hx253_2 hx253_3 hHeld ⊢
        refine Pu_ 0 (some 17) HT_ ?_
        refine Pu_ 1 (some 18) HT_ ?_
        refine Pu_ 2 (some 19) HT_ ?_
        refine Pu_ 4 (some 21) HT_ ?_
        refine Pu_ 5 (some 22) HT_ ?_
        refine Pu_ 6 (some 23) HT_ ?_
        refine Tk_ 3 (some 20) HT_ HW_ hHeld ?_
        refine Tk_ 7 (some 24) HT_ HW_ hHeld ?_
        refine On_ 8 (some 25) HT_ (fun K hK => ?_)
        refine Gs_ Try.func117 ((laws_eqProcess.calls k1 ((rd_T103 l0 x5_1).f0) _ _ ((rd_T103 l0 x5_1).f1) _ _ ((rd_T103 l0 x5_1).f2) ((rd_T103 l0 x5_1).f3) ((rd_T103 l1 x5_1).f0) _ _ ((rd_T103 l1 x5_1).f1) _ _ ((rd_T103 l1 x5_1).f2) ((rd_T103 l1 x5_1).f3) true _ (Sc_ HR252_1 HB) HC252_1.out (Sc_ HR252_2 HB) HC252_2.out (Sc_ HR253_1 HB) HC253_1.out (Sc_ HR253_2 HB) HC253_2.out A7.out).mono ?_)
        rintro e w10 ⟨rfl, hb⟩
        refine ⟨_, rfl, ?_⟩
        replace HB := Hs_ HB hb
        clear hb
        refine hK.out _ _ ⟨(Bw_ hw252_0 HB), (Bw_ hw252_1 HB), (Bw_ hw252_2 HB), (Bw_ hw252_3 HB), (Bw_ hw253_0 HB), (Bw_ hw253_1 HB), (Bw_ hw253_2 HB), (Bw_ hw253_3 HB)⟩ (fun hHeld => ?_)
        clear hK K
        refine No_ (some 25) ?_
        refine Pu_ 9 (some 26) HT_ ?_
        refine done_ (done_of HT_.out (by kernel_rfl)) ?_
        try go_wp2
        go_roundg k1
        case measure => have := HK1.out; omega
        case rel => exact ⟨(wrap64 (x5_1 + 1)), Rr_, H', ⟨by have := HK1.out; omega⟩, ⟨Hf_ HB⟩⟩
       ·replace c8 := Bool.eq_false_iff.mpr c8
        subst c8
        rw [if_neg Ff_] at H
        obtain rfl := Option.some.inj H
        try go_wp2
        replace HB := Aside0.mk (below_drew1 HB.out)
        have p252 : 0 ≤ (x5_1 : Int) := of_decide_eq_true As_
        have q252 : x5_1 < (l0.length : Int) := of_decide_eq_true As_
        obtain ⟨ad252, A252_1, c252_1, A252_2, c252_2, e252, hx252_0, hx252_1, hx252_2, hx252_3, hl252_1, hi252_1, hl252_2, hi252_2⟩ := at_T103 HR0.out x5_1 p252 q252
        have hw252_3 := hx252_3
        have hw252_2 := hx252_2
        have hw252_1 := hx252_1
        have hw252_0 := hx252_0
        cases e252
        replace hx252_0 := Bw_ hx252_0 HB
        replace hx252_1 := Bw_ hx252_1 HB
        replace hx252_2 := Bw_ hx252_2 HB
        replace hx252_3 := Bw_ hx252_3 HB
        have HR252_1 := Aside0.mk hi252_1
        have HC252_1 := Aside0.mk hl252_1
        clear hi252_1 hl252_1
        have HR252_2 := Aside0.mk hi252_2
        have HC252_2 := Aside0.mk hl252_2
        clear hi252_2 hl252_2
        replace p252 := eq_true p252
        replace q252 := eq_true q252
        have p253 : 0 ≤ (x5_1 : Int) := of_decide_eq_true As_
        have q253 : x5_1 < (l1.length : Int) := of_decide_eq_true As_
        obtain ⟨ad253, A253_1, c253_1, A253_2, c253_2, e253, hx253_0, hx253_1, hx253_2, hx253_3, hl253_1, hi253_1, hl253_2, hi253_2⟩ := at_T103 HR1.out x5_1 p253 q253
        have hw253_3 := hx253_3
        have hw253_2 := hx253_2
        have hw253_1 := hx253_1
        have hw253_0 := hx253_0
        cases e253
        replace hx253_0 := Bw_ hx253_0 HB
        replace hx253_1 := Bw_ hx253_1 HB
        replace hx253_2 := Bw_ hx253_2 HB
        replace hx253_3 := Bw_ hx253_3 HB
        have HR253_1 := Aside0.mk hi253_1
        have HC253_1 := Aside0.mk hl253_1
        clear hi253_1 hl253_1
        have HR253_2 := Aside0.mk hi253_2
        have HC253_2 := Aside0.mk hl253_2
        clear hi253_2 hl253_2
        replace p253 := eq_true p253
        replace q253 := eq_true q253
        refine start_ (n := 10) (S := fun w' => w'.cell? (ad252.add ((x5_1).toNat * 4)) = some (.string ((rd_T103 l0 x5_1).f0)) ∧ w'.cell? ⟨(ad252.add ((x5_1).toNat * 4)).block, (ad252.add ((x5_1).toNat * 4)).off + 1, none⟩ = some (.slice A252_1 ((rd_T103 l0 x5_1).f1).length c252_1) ∧ w'.cell? ⟨(ad252.add ((x5_1).toNat * 4)).block, (ad252.add ((x5_1).toNat * 4)).off + 2, none⟩ = some (.slice A252_2 ((rd_T103 l0 x5_1).f2).length c252_2) ∧ w'.cell? ⟨(ad252.add ((x5_1).toNat * 4)).block, (ad252.add ((x5_1).toNat * 4)).off + 3, none⟩ = some (.int .i64 ((rd_T103 l0 x5_1).f3)) ∧ w'.cell? (ad253.add ((x5_1).toNat * 4)) = some (.string ((rd_T103 l1 x5_1).f0)) ∧ w'.cell? ⟨(ad253.add ((x5_1).toNat * 4)).block, (ad253.add ((x5_1).toNat * 4)).off + 1, none⟩ = some (.slice A253_1 ((rd_T103 l1 x5_1).f1).length c253_1) ∧ w'.cell? ⟨(ad253.add ((x5_1).toNat * 4)).block, (ad253.add ((x5_1).toNat * 4)).off + 2, none⟩ = some (.slice A253_2 ((rd_T103 l1 x5_1).f2).length c253_2) ∧ w'.cell? ⟨(ad253.add ((x5_1).toNat * 4)).block, (ad253.add ((x5_1).toNat * 4)).off + 3, none⟩ = some (.int .i64 ((rd_T103 l1 x5_1).f3))) (ds := []) #[false, false, false, false, false, false, false, false, false, false] (by kernel_rfl) rfl rfl ⟨(Bw_ hw252_0 HB), (Bw_ hw252_1 HB), (Bw_ hw252_2 HB), (Bw_ hw252_3 HB), (Bw_ hw253_0 HB), (Bw_ hw253_1 HB), (Bw_ hw253_2 HB), (Bw_ hw253_3 HB)⟩ (fun hHeld => ?_); refine with_tabW laws_eqProcessS.tab6 laws_eqProcessS.bits6 (fun HT_ HW_ => ?_)
        generalize wr.drew = w11 at HB HR252_1 HR252_2 HR253_1 HR253_2 hx252_0 hx252_1 hx252_2 hx252_3 hx253_0 hx253_1 hx253_2 hx253_3 hHeld ⊢
        refine Pu_ 0 (some 17) HT_ ?_
        refine Pu_ 1 (some 18) HT_ ?_
        refine Pu_ 2 (some 19) HT_ ?_
        refine Pu_ 4 (some 21) HT_ ?_
        refine Pu_ 5 (some 22) HT_ ?_
        refine Pu_ 6 (some 23) HT_ ?_
        refine Tk_ 3 (some 20) HT_ HW_ hHeld ?_
        refine Tk_ 7 (some 24) HT_ HW_ hHeld ?_
        refine On_ 8 (some 25) HT_ (fun K hK => ?_)
        refine Gs_ Try.func117 ((laws_eqProcess.calls k1 ((rd_T103 l0 x5_1).f0) _ _ ((rd_T103 l0 x5_1).f1) _ _ ((rd_T103 l0 x5_1).f2) ((rd_T103 l0 x5_1).f3) ((rd_T103 l1 x5_1).f0) _ _ ((rd_T103 l1 x5_1).f1) _ _ ((rd_T103 l1 x5_1).f2) ((rd_T103 l1 x5_1).f3) false _ (Sc_ HR252_1 HB) HC252_1.out (Sc_ HR252_2 HB) HC252_2.out (Sc_ HR253_1 HB) HC253_1.out (Sc_ HR253_2 HB) HC253_2.out A7.out).mono ?_)
        rintro e w12 ⟨rfl, hb⟩
        refine ⟨_, rfl, ?_⟩
        replace HB := Hs_ HB hb
        clear hb
        refine hK.out _ _ ⟨(Bw_ hw252_0 HB), (Bw_ hw252_1 HB), (Bw_ hw252_2 HB), (Bw_ hw252_3 HB), (Bw_ hw253_0 HB), (Bw_ hw253_1 HB), (Bw_ hw253_2 HB), (Bw_ hw253_3 HB)⟩ (fun hHeld => ?_)
        clear hK K
        refine No_ (some 25) ?_
        refine Pu_ 9 (some 26) HT_ ?_
        refine done_ (done_of HT_.out (by kernel_rfl)) ?_
        try go_wp2
        go_ret
        exact ⟨Re_, Hf_ HB⟩
      ·rw [if_neg c6] at H
       exact absurd H (by simp)
     ·rw [if_neg c5] at H
      exact absurd H (by simp)
    ·rw [if_neg c4] at H
     have c4b0 := decide_eq_false c4
     clear c4
     obtain rfl := Option.some.inj H
     go_wp2
     go_ret
     exact ⟨Re_, Hf_ HB⟩
 ·rw [if_neg c3] at H
  have c3b0 := beq_eq_false_iff_ne.mpr c3
  have c3b1 := bne_iff_ne.mpr c3
  have c3b2 : (l0.length == l1.length) = false := by first | simpa using c3 | (simp at c3 ⊢; omega)
  obtain rfl := Option.some.inj H
  go_enter Try.func64, Try.ntmps64
  go_wp2
  go_ret
  exact ⟨Re_, Hf_ HB⟩

/-! ### laws_eqProgram: function 19 -/
def laws_eqProgram.f (k : Nat) (l0_0 : List (S77)) (l0_1 : List (S106)) (l0_2 : List (S103)) (l1_0 : List (S77)) (l1_1 : List (S106)) (l1_2 : List (S103)) : Option (Bool) := (laws_eqNodeS.f k l0_0 l1_0).bind fun t257 => (if t257 = true then ((laws_eqMonitorS.f k l0_1 l1_1).bind fun t258 => (if t258 = true then ((laws_eqProcessS.f k l0_2 l1_2).bind fun t259 => (if t259 = true then (some true) else (some false))) else (some false))) else (some false))
theorem laws_eqProgram.calls (k : Nat) (A0_0 : Option Addr) (c0_0 : Nat) (l0_0 : List (S77)) (A0_1 : Option Addr) (c0_1 : Nat) (l0_1 : List (S106)) (A0_2 : Option Addr) (c0_2 : Nat) (l0_2 : List (S103)) (A1_0 : Option Addr) (c1_0 : Nat) (l1_0 : List (S77)) (A1_1 : Option Addr) (c1_1 : Nat) (l1_1 : List (S106)) (A1_2 : Option Addr) (c1_2 : Nat) (l1_2 : List (S103)) (r : Bool) (w : World) (hr0_0 : Kd.C k77 w A0_0 l0_0.length l0_0) (hc0_0 : l0_0.length ≤ c0_0) (hr0_1 : Kd.C k106 w A0_1 l0_1.length l0_1) (hc0_1 : l0_1.length ≤ c0_1) (hr0_2 : Kd.C k103 w A0_2 l0_2.length l0_2) (hc0_2 : l0_2.length ≤ c0_2) (hr1_0 : Kd.C k77 w A1_0 l1_0.length l1_0) (hc1_0 : l1_0.length ≤ c1_0) (hr1_1 : Kd.C k106 w A1_1 l1_1.length l1_1) (hc1_1 : l1_1.length ≤ c1_1) (hr1_2 : Kd.C k103 w A1_2 l1_2.length l1_2) (hc1_2 : l1_2.length ≤ c1_2) (h : laws_eqProgram.f k l0_0 l0_1 l0_2 l1_0 l1_1 l1_2 = some r) :
  Calls Try.prog 19 #[.agg #[.slice A0_0 l0_0.length c0_0, .slice A0_1 l0_1.length c0_1, .slice A0_2 l0_2.length c0_2], .agg #[.slice A1_0 l1_0.length c1_0, .slice A1_1 l1_1.length c1_1, .slice A1_2 l1_2.length c1_2]] w fun e w' => e = .returned (.bool r) ∧ Below w.heap.size w w' := by
 have hu40 := Try.underlying40
 have HR0_0 := Aside0.mk hr0_0
 have HC0_0 := Aside0.mk hc0_0
 clear hr0_0 hc0_0
 have HR0_1 := Aside0.mk hr0_1
 have HC0_1 := Aside0.mk hc0_1
 clear hr0_1 hc0_1
 have HR0_2 := Aside0.mk hr0_2
 have HC0_2 := Aside0.mk hc0_2
 clear hr0_2 hc0_2
 have HR1_0 := Aside0.mk hr1_0
 have HC1_0 := Aside0.mk hc1_0
 clear hr1_0 hc1_0
 have HR1_1 := Aside0.mk hr1_1
 have HC1_1 := Aside0.mk hc1_1
 clear hr1_1 hc1_1
 have HR1_2 := Aside0.mk hr1_2
 have HC1_2 := Aside0.mk hc1_2
 clear hr1_2 hc1_2
 have HB := Aside0.mk (Below.refl w.heap.size w)
 have H : ((laws_eqNodeS.f k l0_0 l1_0).bind fun t257 => (if t257 = true then ((laws_eqMonitorS.f k l0_1 l1_1).bind fun t258 => (if t258 = true then ((laws_eqProcessS.f k l0_2 l1_2).bind fun t259 => (if t259 = true then (some true) else (some false))) else (some false))) else (some false))) = some r := h
 clear h
 obtain ⟨t257, A3, H⟩ := Bo_ H
 by_cases c4 : t257 = true
 ·subst c4
  rw [if_pos rfl] at H
  obtain ⟨t258, A5, H⟩ := Bo_ H
  by_cases c6 : t258 = true
  ·subst c6
   rw [if_pos rfl] at H
   obtain ⟨t259, A7, H⟩ := Bo_ H
   by_cases c8 : t259 = true
   ·subst c8
    rw [if_pos rfl] at H
    obtain rfl := Option.some.inj H
    go_enter Try.func19, Try.ntmps19
    go_wp2_with (first | (refine Bv_ 2 #[.slice A0_0 l0_0.length c0_0, .slice A0_1 l0_1.length c0_1, .slice A0_2 l0_2.length c0_2] 40 ?_; intro gb255 hg w9 BK255 hb; have GW255 := Hg_ HB hg; replace HB := Hs_ HB hb; clear hb hg) | (refine Bv_ 3 #[.slice A1_0 l1_0.length c1_0, .slice A1_1 l1_1.length c1_1, .slice A1_2 l1_2.length c1_2] 40 ?_; intro gb256 hg w10 BK256 hb; have GW256 := Hg_ HB hg; have NB255_256 := Bl_ BK255 hg; have NB256_255 := Bm_ NB255_256; replace BK255 := Bb_ BK255 hb; replace HB := Hs_ HB hb; clear hb hg; have hnb11 := NB255_256.out; have hnc11 := NB256_255.out; obtain ⟨hcz12_0, hcz12_1, hcz12_2, hfz12_0, hfz12_1, hfz12_2⟩ := Bc3_ BK255; obtain ⟨hcz13_0, hcz13_1, hcz13_2, hfz13_0, hfz13_1, hfz13_2⟩ := Bc3_ BK256) | (refine Gl_ (some 9) Try.func62 ((laws_eqNodeS.calls k _ _ l0_0 _ _ l1_0 true _ (Sc_ HR0_0 HB) HC0_0.out (Sc_ HR1_0 HB) HC1_0.out A3.out).mono ?_); rintro e w14 ⟨rfl, hb⟩; refine ⟨_, rfl, ?_⟩; replace BK255 := Bb_ BK255 hb; replace BK256 := Bb_ BK256 hb; replace HB := Hs_ HB hb; clear hb; obtain ⟨hcz15_0, hcz15_1, hcz15_2, hfz15_0, hfz15_1, hfz15_2⟩ := Bc3_ BK255; obtain ⟨hcz16_0, hcz16_1, hcz16_2, hfz16_0, hfz16_1, hfz16_2⟩ := Bc3_ BK256) | (refine Gl_ (some 15) Try.func63 ((laws_eqMonitorS.calls k _ _ l0_1 _ _ l1_1 true _ (Sc_ HR0_1 HB) HC0_1.out (Sc_ HR1_1 HB) HC1_1.out A5.out).mono ?_); rintro e w17 ⟨rfl, hb⟩; refine ⟨_, rfl, ?_⟩; replace BK255 := Bb_ BK255 hb; replace BK256 := Bb_ BK256 hb; replace HB := Hs_ HB hb; clear hb; obtain ⟨hcz18_0, hcz18_1, hcz18_2, hfz18_0, hfz18_1, hfz18_2⟩ := Bc3_ BK255; obtain ⟨hcz19_0, hcz19_1, hcz19_2, hfz19_0, hfz19_1, hfz19_2⟩ := Bc3_ BK256) | (refine Gl_ (some 21) Try.func64 ((laws_eqProcessS.calls k _ _ l0_2 _ _ l1_2 true _ (Sc_ HR0_2 HB) HC0_2.out (Sc_ HR1_2 HB) HC1_2.out A7.out).mono ?_); rintro e w20 ⟨rfl, hb⟩; refine ⟨_, rfl, ?_⟩; replace BK255 := Bb_ BK255 hb; replace BK256 := Bb_ BK256 hb; replace HB := Hs_ HB hb; clear hb))
    go_ret
    exact ⟨Re_, Hf_ HB⟩
   ·replace c8 := Bool.eq_false_iff.mpr c8
    subst c8
    rw [if_neg Ff_] at H
    obtain rfl := Option.some.inj H
    go_enter Try.func19, Try.ntmps19
    go_wp2_with (first | (refine Bv_ 2 #[.slice A0_0 l0_0.length c0_0, .slice A0_1 l0_1.length c0_1, .slice A0_2 l0_2.length c0_2] 40 ?_; intro gb255 hg w21 BK255 hb; have GW255 := Hg_ HB hg; replace HB := Hs_ HB hb; clear hb hg) | (refine Bv_ 3 #[.slice A1_0 l1_0.length c1_0, .slice A1_1 l1_1.length c1_1, .slice A1_2 l1_2.length c1_2] 40 ?_; intro gb256 hg w22 BK256 hb; have GW256 := Hg_ HB hg; have NB255_256 := Bl_ BK255 hg; have NB256_255 := Bm_ NB255_256; replace BK255 := Bb_ BK255 hb; replace HB := Hs_ HB hb; clear hb hg; have hnb23 := NB255_256.out; have hnc23 := NB256_255.out; obtain ⟨hcz24_0, hcz24_1, hcz24_2, hfz24_0, hfz24_1, hfz24_2⟩ := Bc3_ BK255; obtain ⟨hcz25_0, hcz25_1, hcz25_2, hfz25_0, hfz25_1, hfz25_2⟩ := Bc3_ BK256) | (refine Gl_ (some 9) Try.func62 ((laws_eqNodeS.calls k _ _ l0_0 _ _ l1_0 true _ (Sc_ HR0_0 HB) HC0_0.out (Sc_ HR1_0 HB) HC1_0.out A3.out).mono ?_); rintro e w26 ⟨rfl, hb⟩; refine ⟨_, rfl, ?_⟩; replace BK255 := Bb_ BK255 hb; replace BK256 := Bb_ BK256 hb; replace HB := Hs_ HB hb; clear hb; obtain ⟨hcz27_0, hcz27_1, hcz27_2, hfz27_0, hfz27_1, hfz27_2⟩ := Bc3_ BK255; obtain ⟨hcz28_0, hcz28_1, hcz28_2, hfz28_0, hfz28_1, hfz28_2⟩ := Bc3_ BK256) | (refine Gl_ (some 15) Try.func63 ((laws_eqMonitorS.calls k _ _ l0_1 _ _ l1_1 true _ (Sc_ HR0_1 HB) HC0_1.out (Sc_ HR1_1 HB) HC1_1.out A5.out).mono ?_); rintro e w29 ⟨rfl, hb⟩; refine ⟨_, rfl, ?_⟩; replace BK255 := Bb_ BK255 hb; replace BK256 := Bb_ BK256 hb; replace HB := Hs_ HB hb; clear hb; obtain ⟨hcz30_0, hcz30_1, hcz30_2, hfz30_0, hfz30_1, hfz30_2⟩ := Bc3_ BK255; obtain ⟨hcz31_0, hcz31_1, hcz31_2, hfz31_0, hfz31_1, hfz31_2⟩ := Bc3_ BK256) | (refine Gl_ (some 21) Try.func64 ((laws_eqProcessS.calls k _ _ l0_2 _ _ l1_2 false _ (Sc_ HR0_2 HB) HC0_2.out (Sc_ HR1_2 HB) HC1_2.out A7.out).mono ?_); rintro e w32 ⟨rfl, hb⟩; refine ⟨_, rfl, ?_⟩; replace BK255 := Bb_ BK255 hb; replace BK256 := Bb_ BK256 hb; replace HB := Hs_ HB hb; clear hb))
    go_ret
    exact ⟨Re_, Hf_ HB⟩
  ·replace c6 := Bool.eq_false_iff.mpr c6
   subst c6
   rw [if_neg Ff_] at H
   obtain rfl := Option.some.inj H
   go_enter Try.func19, Try.ntmps19
   go_wp2_with (first | (refine Bv_ 2 #[.slice A0_0 l0_0.length c0_0, .slice A0_1 l0_1.length c0_1, .slice A0_2 l0_2.length c0_2] 40 ?_; intro gb255 hg w33 BK255 hb; have GW255 := Hg_ HB hg; replace HB := Hs_ HB hb; clear hb hg) | (refine Bv_ 3 #[.slice A1_0 l1_0.length c1_0, .slice A1_1 l1_1.length c1_1, .slice A1_2 l1_2.length c1_2] 40 ?_; intro gb256 hg w34 BK256 hb; have GW256 := Hg_ HB hg; have NB255_256 := Bl_ BK255 hg; have NB256_255 := Bm_ NB255_256; replace BK255 := Bb_ BK255 hb; replace HB := Hs_ HB hb; clear hb hg; have hnb35 := NB255_256.out; have hnc35 := NB256_255.out; obtain ⟨hcz36_0, hcz36_1, hcz36_2, hfz36_0, hfz36_1, hfz36_2⟩ := Bc3_ BK255; obtain ⟨hcz37_0, hcz37_1, hcz37_2, hfz37_0, hfz37_1, hfz37_2⟩ := Bc3_ BK256) | (refine Gl_ (some 9) Try.func62 ((laws_eqNodeS.calls k _ _ l0_0 _ _ l1_0 true _ (Sc_ HR0_0 HB) HC0_0.out (Sc_ HR1_0 HB) HC1_0.out A3.out).mono ?_); rintro e w38 ⟨rfl, hb⟩; refine ⟨_, rfl, ?_⟩; replace BK255 := Bb_ BK255 hb; replace BK256 := Bb_ BK256 hb; replace HB := Hs_ HB hb; clear hb; obtain ⟨hcz39_0, hcz39_1, hcz39_2, hfz39_0, hfz39_1, hfz39_2⟩ := Bc3_ BK255; obtain ⟨hcz40_0, hcz40_1, hcz40_2, hfz40_0, hfz40_1, hfz40_2⟩ := Bc3_ BK256) | (refine Gl_ (some 15) Try.func63 ((laws_eqMonitorS.calls k _ _ l0_1 _ _ l1_1 false _ (Sc_ HR0_1 HB) HC0_1.out (Sc_ HR1_1 HB) HC1_1.out A5.out).mono ?_); rintro e w41 ⟨rfl, hb⟩; refine ⟨_, rfl, ?_⟩; replace BK255 := Bb_ BK255 hb; replace BK256 := Bb_ BK256 hb; replace HB := Hs_ HB hb; clear hb))
   go_ret
   exact ⟨Re_, Hf_ HB⟩
 ·replace c4 := Bool.eq_false_iff.mpr c4
  subst c4
  rw [if_neg Ff_] at H
  obtain rfl := Option.some.inj H
  go_enter Try.func19, Try.ntmps19
  go_wp2_with (first | (refine Bv_ 2 #[.slice A0_0 l0_0.length c0_0, .slice A0_1 l0_1.length c0_1, .slice A0_2 l0_2.length c0_2] 40 ?_; intro gb255 hg w42 BK255 hb; have GW255 := Hg_ HB hg; replace HB := Hs_ HB hb; clear hb hg) | (refine Bv_ 3 #[.slice A1_0 l1_0.length c1_0, .slice A1_1 l1_1.length c1_1, .slice A1_2 l1_2.length c1_2] 40 ?_; intro gb256 hg w43 BK256 hb; have GW256 := Hg_ HB hg; have NB255_256 := Bl_ BK255 hg; have NB256_255 := Bm_ NB255_256; replace BK255 := Bb_ BK255 hb; replace HB := Hs_ HB hb; clear hb hg; have hnb44 := NB255_256.out; have hnc44 := NB256_255.out; obtain ⟨hcz45_0, hcz45_1, hcz45_2, hfz45_0, hfz45_1, hfz45_2⟩ := Bc3_ BK255; obtain ⟨hcz46_0, hcz46_1, hcz46_2, hfz46_0, hfz46_1, hfz46_2⟩ := Bc3_ BK256) | (refine Gl_ (some 9) Try.func62 ((laws_eqNodeS.calls k _ _ l0_0 _ _ l1_0 false _ (Sc_ HR0_0 HB) HC0_0.out (Sc_ HR1_0 HB) HC1_0.out A3.out).mono ?_); rintro e w47 ⟨rfl, hb⟩; refine ⟨_, rfl, ?_⟩; replace BK255 := Bb_ BK255 hb; replace BK256 := Bb_ BK256 hb; replace HB := Hs_ HB hb; clear hb))
  go_ret
  exact ⟨Re_, Hf_ HB⟩

/-! ### laws_szEnv: function 47 -/
def laws_szEnv.f (k : Nat) (l0_0 : List ByteArray) (l0_1 : List Int) (a1 : Int) : Option (Int) := (laws_szStringS.f k l0_0 a1).bind fun t261 => (if t261 < 0 then (some (-1)) else ((laws_szIntS.f l0_1 t261).bind fun t262 => (if t262 < 0 then (some (-1)) else (some t262))))
theorem laws_szEnv.calls (k : Nat) (A0_0 : Option Addr) (c0_0 : Nat) (l0_0 : List ByteArray) (A0_1 : Option Addr) (c0_1 : Nat) (l0_1 : List Int) (a1 : Int) (r : Int) (w : World) (hr0_0 : Kd.C Kd.string w A0_0 l0_0.length l0_0) (hc0_0 : l0_0.length ≤ c0_0) (hr0_1 : Kd.C (Kd.int .i64) w A0_1 l0_1.length l0_1) (hc0_1 : l0_1.length ≤ c0_1) (h : laws_szEnv.f k l0_0 l0_1 a1 = some r) :
  Calls Try.prog 47 #[.agg #[.slice A0_0 l0_0.length c0_0, .slice A0_1 l0_1.length c0_1], .int .i64 a1] w fun e w' => e = .returned (.int .i64 r) ∧ Below w.heap.size w w' := by
 have hu30 := Try.underlying30
 have HR0_0 := Aside0.mk hr0_0
 have HC0_0 := Aside0.mk hc0_0
 clear hr0_0 hc0_0
 have HR0_1 := Aside0.mk hr0_1
 have HC0_1 := Aside0.mk hc0_1
 clear hr0_1 hc0_1
 have HB := Aside0.mk (Below.refl w.heap.size w)
 have H : ((laws_szStringS.f k l0_0 a1).bind fun t261 => (if t261 < 0 then (some (-1)) else ((laws_szIntS.f l0_1 t261).bind fun t262 => (if t262 < 0 then (some (-1)) else (some t262))))) = some r := h
 clear h
 obtain ⟨t261, A3, H⟩ := Bo_ H
 by_cases c4 : t261 < 0
 ·rw [if_pos c4] at H
  have c4b0 := decide_eq_true c4
  clear c4
  obtain rfl := Option.some.inj H
  go_enter Try.func47, Try.ntmps47
  go_wp2_with (first | (refine Bv_ 2 #[.slice A0_0 l0_0.length c0_0, .slice A0_1 l0_1.length c0_1] 30 ?_; intro gb260 hg w5 BK260 hb; have GW260 := Hg_ HB hg; replace HB := Hs_ HB hb; clear hb hg; obtain ⟨hcz6_0, hcz6_1, hfz6_0, hfz6_1⟩ := Bc2_ BK260) | (refine Gl_ (some 8) Try.func27 ((laws_szStringS.calls k _ _ l0_0 a1 t261 _ (Sc_ HR0_0 HB) HC0_0.out A3.out).mono ?_); rintro e w' ⟨rfl, ⟨nd, rfl⟩⟩; refine ⟨_, rfl, ?_⟩))
  go_ret
  exact ⟨Re_, Hf_ HB⟩
 ·rw [if_neg c4] at H
  have c4b0 := decide_eq_false c4
  clear c4
  obtain ⟨t262, A7, H⟩ := Bo_ H
  by_cases c8 : t262 < 0
  ·rw [if_pos c8] at H
   have c8b0 := decide_eq_true c8
   clear c8
   obtain rfl := Option.some.inj H
   go_enter Try.func47, Try.ntmps47
   go_wp2_with (first | (refine Bv_ 2 #[.slice A0_0 l0_0.length c0_0, .slice A0_1 l0_1.length c0_1] 30 ?_; intro gb260 hg w9 BK260 hb; have GW260 := Hg_ HB hg; replace HB := Hs_ HB hb; clear hb hg; obtain ⟨hcz10_0, hcz10_1, hfz10_0, hfz10_1⟩ := Bc2_ BK260) | (refine Gl_ (some 8) Try.func27 ((laws_szStringS.calls k _ _ l0_0 a1 t261 _ (Sc_ HR0_0 HB) HC0_0.out A3.out).mono ?_); rintro e w' ⟨rfl, ⟨nd, rfl⟩⟩; refine ⟨_, rfl, ?_⟩) | (refine Gl_ (some 14) Try.func55 ((laws_szIntS.calls _ _ l0_1 t261 t262 _ (Sh_ HR0_1 HB) HC0_1.out A7.out).mono ?_); rintro e w' ⟨rfl, ⟨nd, rfl⟩⟩; refine ⟨_, rfl, ?_⟩))
   go_ret
   exact ⟨Re_, Hf_ HB⟩
  ·rw [if_neg c8] at H
   have c8b0 := decide_eq_false c8
   clear c8
   obtain rfl := Option.some.inj H
   go_enter Try.func47, Try.ntmps47
   go_wp2_with (first | (refine Bv_ 2 #[.slice A0_0 l0_0.length c0_0, .slice A0_1 l0_1.length c0_1] 30 ?_; intro gb260 hg w11 BK260 hb; have GW260 := Hg_ HB hg; replace HB := Hs_ HB hb; clear hb hg; obtain ⟨hcz12_0, hcz12_1, hfz12_0, hfz12_1⟩ := Bc2_ BK260) | (refine Gl_ (some 8) Try.func27 ((laws_szStringS.calls k _ _ l0_0 a1 t261 _ (Sc_ HR0_0 HB) HC0_0.out A3.out).mono ?_); rintro e w' ⟨rfl, ⟨nd, rfl⟩⟩; refine ⟨_, rfl, ?_⟩) | (refine Gl_ (some 14) Try.func55 ((laws_szIntS.calls _ _ l0_1 t261 t262 _ (Sh_ HR0_1 HB) HC0_1.out A7.out).mono ?_); rintro e w' ⟨rfl, ⟨nd, rfl⟩⟩; refine ⟨_, rfl, ?_⟩))
   go_ret
   exact ⟨Re_, Hf_ HB⟩

/-! ### spec_l01In: function 73 -/
def spec_l01In.f (a0 : Int) (a1 : Int) (a2 : Int) : Option (Bool) := if a0 ≥ a1 then (some (decide (a0 ≤ a2))) else (some false)
theorem spec_l01In.calls (a0 : Int) (a1 : Int) (a2 : Int) (r : Bool) (w : World) (h : spec_l01In.f a0 a1 a2 = some r) :
  Calls Try.prog 73 #[.int .i64 a0, .int .i64 a1, .int .i64 a2] w fun e w' => e = .returned (.bool r) ∧ Drawn0 w w' := by
 have H : (if a0 ≥ a1 then (some (decide (a0 ≤ a2))) else (some false)) = some r := h
 clear h
 by_cases c4 : a0 ≥ a1
 ·rw [if_pos c4] at H
  have c4b0 : decide (a1 ≤ a0) = true := decide_eq_true c4
  clear c4
  obtain rfl := Option.some.inj H
  go_enter Try.func73, Try.ntmps73
  go_wp2
  go_ret
  exact ⟨by first | rfl | (simp; done) | (simp [*]; done), by repeat (first | exact Drawn0.refl _ | apply Drawn0.step)⟩
 ·rw [if_neg c4] at H
  have c4b0 : decide (a1 ≤ a0) = false := decide_eq_false c4
  clear c4
  obtain rfl := Option.some.inj H
  go_enter Try.func73, Try.ntmps73
  go_wp2
  go_ret
  exact ⟨by first | rfl | (simp; done) | (simp [*]; done), by repeat (first | exact Drawn0.refl _ | apply Drawn0.step)⟩

/-! ### spec_l05Value: function 74 -/
def spec_l05Value.f (a0 : Int) : Option (Bool) := (spec_l01In.f a0 1 5).bind fun t263 => (some t263)
theorem spec_l05Value.calls (a0 : Int) (r : Bool) (w : World) (h : spec_l05Value.f a0 = some r) :
  Calls Try.prog 74 #[.int .i64 a0] w fun e w' => e = .returned (.bool r) ∧ Drawn0 w w' := by
 have H : ((spec_l01In.f a0 1 5).bind fun t263 => (some t263)) = some r := h
 clear h
 obtain ⟨t263, A2, H⟩ := Bo_ H
 obtain rfl := Option.some.inj H
 go_enter Try.func74, Try.ntmps74
 go_wp2_with (first | (refine Gl_ (some 4) Try.func73 ((spec_l01In.calls a0 1 5 t263 _ A2.out).mono ?_); rintro e w' ⟨rfl, ⟨nd, rfl⟩⟩; refine ⟨_, rfl, ?_⟩))
 go_ret
 exact ⟨by first | rfl | (simp; done) | (simp [*]; done), by repeat (first | exact Drawn0.refl _ | apply Drawn0.step)⟩

/-! ### spec_l05Statement: function 75 -/
def spec_l05Statement.f (a0 : Int) : Option (Bool) := (spec_l01In.f a0 11 19).bind fun t264 => (some t264)
theorem spec_l05Statement.calls (a0 : Int) (r : Bool) (w : World) (h : spec_l05Statement.f a0 = some r) :
  Calls Try.prog 75 #[.int .i64 a0] w fun e w' => e = .returned (.bool r) ∧ Drawn0 w w' := by
 have H : ((spec_l01In.f a0 11 19).bind fun t264 => (some t264)) = some r := h
 clear h
 obtain ⟨t264, A2, H⟩ := Bo_ H
 obtain rfl := Option.some.inj H
 go_enter Try.func75, Try.ntmps75
 go_wp2_with (first | (refine Gl_ (some 4) Try.func73 ((spec_l01In.calls a0 11 19 t264 _ A2.out).mono ?_); rintro e w' ⟨rfl, ⟨nd, rfl⟩⟩; refine ⟨_, rfl, ?_⟩))
 go_ret
 exact ⟨by first | rfl | (simp; done) | (simp [*]; done), by repeat (first | exact Drawn0.refl _ | apply Drawn0.step)⟩

/-! ### spec_l05Kid: function 125 -/
def spec_l05Kid.f (l0_0 : List (S77)) (l0_1 : List (S106)) (l0_2 : List (S103)) (a1 : Int) (a2 : Int) : Option (Int) := if 0 ≤ a1 then (if a1 < (l0_0.length : Int) then (if 0 ≤ a2 then (if a2 < (((rd_T77 l0_0 a1).f5).length : Int) then ((spec_l01In.f (rd ((rd_T77 l0_0 a1).f5) a2) 0 (wrap64 (a1 - 1))).bind fun t268 => (if t268 = true then (if 0 ≤ (rd ((rd_T77 l0_0 a1).f5) a2) then (if (rd ((rd_T77 l0_0 a1).f5) a2) < (l0_0.length : Int) then (some ((rd_T77 l0_0 (rd ((rd_T77 l0_0 a1).f5) a2)).f0)) else (none)) else (none)) else (some 0))) else (none)) else (none)) else (none)) else (none)
theorem spec_l05Kid.calls (A0_0 : Option Addr) (c0_0 : Nat) (l0_0 : List (S77)) (A0_1 : Option Addr) (c0_1 : Nat) (l0_1 : List (S106)) (A0_2 : Option Addr) (c0_2 : Nat) (l0_2 : List (S103)) (a1 : Int) (a2 : Int) (r : Int) (w : World) (hr0_0 : Kd.C k77 w A0_0 l0_0.length l0_0) (hc0_0 : l0_0.length ≤ c0_0) (hr0_1 : Kd.C k106 w A0_1 l0_1.length l0_1) (hc0_1 : l0_1.length ≤ c0_1) (hr0_2 : Kd.C k103 w A0_2 l0_2.length l0_2) (hc0_2 : l0_2.length ≤ c0_2) (h : spec_l05Kid.f l0_0 l0_1 l0_2 a1 a2 = some r) :
  Calls Try.prog 125 #[.agg #[.slice A0_0 l0_0.length c0_0, .slice A0_1 l0_1.length c0_1, .slice A0_2 l0_2.length c0_2], .int .i64 a1, .int .i64 a2] w fun e w' => e = .returned (.int .i64 r) ∧ Below w.heap.size w w' := by
 have hu40 := Try.underlying40
 have HR0_0 := Aside0.mk hr0_0
 have HC0_0 := Aside0.mk hc0_0
 clear hr0_0 hc0_0
 have HR0_1 := Aside0.mk hr0_1
 have HC0_1 := Aside0.mk hc0_1
 clear hr0_1 hc0_1
 have HR0_2 := Aside0.mk hr0_2
 have HC0_2 := Aside0.mk hc0_2
 clear hr0_2 hc0_2
 have HB := Aside0.mk (Below.refl w.heap.size w)
 have H : (if 0 ≤ a1 then (if a1 < (l0_0.length : Int) then (if 0 ≤ a2 then (if a2 < (((rd_T77 l0_0 a1).f5).length : Int) then ((spec_l01In.f (rd ((rd_T77 l0_0 a1).f5) a2) 0 (wrap64 (a1 - 1))).bind fun t268 => (if t268 = true then (if 0 ≤ (rd ((rd_T77 l0_0 a1).f5) a2) then (if (rd ((rd_T77 l0_0 a1).f5) a2) < (l0_0.length : Int) then (some ((rd_T77 l0_0 (rd ((rd_T77 l0_0 a1).f5) a2)).f0)) else (none)) else (none)) else (some 0))) else (none)) else (none)) else (none)) else (none)) = some r := h
 clear h
 by_cases c4 : 0 ≤ a1
 ·rw [if_pos c4] at H
  have c4b0 := decide_eq_true c4
  clear c4
  by_cases c5 : a1 < (l0_0.length : Int)
  ·rw [if_pos c5] at H
   have c5b0 := decide_eq_true c5
   clear c5
   by_cases c6 : 0 ≤ a2
   ·rw [if_pos c6] at H
    have c6b0 := decide_eq_true c6
    clear c6
    by_cases c7 : a2 < (((rd_T77 l0_0 a1).f5).length : Int)
    ·rw [if_pos c7] at H
     have c7b0 := decide_eq_true c7
     clear c7
     obtain ⟨t268, A8, H⟩ := Bo_ H
     by_cases c9 : t268 = true
     ·subst c9
      rw [if_pos rfl] at H
      by_cases c10 : 0 ≤ (rd ((rd_T77 l0_0 a1).f5) a2)
      ·rw [if_pos c10] at H
       have c10b0 := decide_eq_true c10
       clear c10
       by_cases c11 : (rd ((rd_T77 l0_0 a1).f5) a2) < (l0_0.length : Int)
       ·rw [if_pos c11] at H
        have c11b0 := decide_eq_true c11
        clear c11
        obtain rfl := Option.some.inj H
        go_enter Try.func125, Try.ntmps125
        go_wp2_with (first | (refine Bv_ 3 #[.slice A0_0 l0_0.length c0_0, .slice A0_1 l0_1.length c0_1, .slice A0_2 l0_2.length c0_2] 40 ?_; intro gb265 hg w12 BK265 hb; have GW265 := Hg_ HB hg; replace HB := Hs_ HB hb; clear hb hg; obtain ⟨hcz13_0, hcz13_1, hcz13_2, hfz13_0, hfz13_1, hfz13_2⟩ := Bc3_ BK265; have p266 : 0 ≤ (a1 : Int) := of_decide_eq_true As_; have q266 : a1 < (l0_0.length : Int) := of_decide_eq_true As_; obtain ⟨ad266, A266_5, c266_5, e266, hx266_0, hx266_1, hx266_2, hx266_3, hx266_4, hx266_5, hl266_5, hi266_5⟩ := at_T77 HR0_0.out a1 p266 q266; cases e266; replace hx266_0 := Bw_ hx266_0 HB; replace hx266_1 := Bw_ hx266_1 HB; replace hx266_2 := Bw_ hx266_2 HB; replace hx266_3 := Bw_ hx266_3 HB; replace hx266_4 := Bw_ hx266_4 HB; replace hx266_5 := Bw_ hx266_5 HB; have HR266_5 := Aside0.mk hi266_5; have HC266_5 := Aside0.mk hl266_5; clear hi266_5 hl266_5; replace p266 := eq_true p266; replace q266 := eq_true q266; have p267 : 0 ≤ (a2 : Int) := of_decide_eq_true As_; have q267 : a2 < (((rd_T77 l0_0 a1).f5).length : Int) := of_decide_eq_true As_; obtain ⟨ad267, e267, hx267_0⟩ := Kd.at_int HR266_5.out a2 p267 q267; cases e267; replace hx267_0 := Bw_ hx267_0 HB; replace p267 := eq_true p267; replace q267 := eq_true q267) | (refine Gl_ (some 20) Try.func73 ((spec_l01In.calls (rd ((rd_T77 l0_0 a1).f5) a2) 0 (wrap64 (a1 - 1)) true _ A8.out).mono ?_); rintro e w' ⟨rfl, ⟨nd, rfl⟩⟩; refine ⟨_, rfl, ?_⟩; have p269 : 0 ≤ ((rd ((rd_T77 l0_0 a1).f5) a2) : Int) := of_decide_eq_true As_; have q269 : (rd ((rd_T77 l0_0 a1).f5) a2) < (l0_0.length : Int) := of_decide_eq_true As_; obtain ⟨ad269, A269_5, c269_5, e269, hx269_0, hx269_1, hx269_2, hx269_3, hx269_4, hx269_5, hl269_5, hi269_5⟩ := at_T77 HR0_0.out (rd ((rd_T77 l0_0 a1).f5) a2) p269 q269; obtain rfl : ad266 = ad269 := (by injection e269); replace hx269_0 := Bw_ hx269_0 HB; replace hx269_1 := Bw_ hx269_1 HB; replace hx269_2 := Bw_ hx269_2 HB; replace hx269_3 := Bw_ hx269_3 HB; replace hx269_4 := Bw_ hx269_4 HB; replace hx269_5 := Bw_ hx269_5 HB; have HR269_5 := Aside0.mk hi269_5; have HC269_5 := Aside0.mk hl269_5; clear hi269_5 hl269_5; replace p269 := eq_true p269; replace q269 := eq_true q269))
        go_ret
        exact ⟨Re_, Hf_ HB⟩
       ·rw [if_neg c11] at H
        exact absurd H (by simp)
      ·rw [if_neg c10] at H
       exact absurd H (by simp)
     ·replace c9 := Bool.eq_false_iff.mpr c9
      subst c9
      rw [if_neg Ff_] at H
      obtain rfl := Option.some.inj H
      go_enter Try.func125, Try.ntmps125
      go_wp2_with (first | (refine Bv_ 3 #[.slice A0_0 l0_0.length c0_0, .slice A0_1 l0_1.length c0_1, .slice A0_2 l0_2.length c0_2] 40 ?_; intro gb265 hg w14 BK265 hb; have GW265 := Hg_ HB hg; replace HB := Hs_ HB hb; clear hb hg; obtain ⟨hcz15_0, hcz15_1, hcz15_2, hfz15_0, hfz15_1, hfz15_2⟩ := Bc3_ BK265; have p266 : 0 ≤ (a1 : Int) := of_decide_eq_true As_; have q266 : a1 < (l0_0.length : Int) := of_decide_eq_true As_; obtain ⟨ad266, A266_5, c266_5, e266, hx266_0, hx266_1, hx266_2, hx266_3, hx266_4, hx266_5, hl266_5, hi266_5⟩ := at_T77 HR0_0.out a1 p266 q266; cases e266; replace hx266_0 := Bw_ hx266_0 HB; replace hx266_1 := Bw_ hx266_1 HB; replace hx266_2 := Bw_ hx266_2 HB; replace hx266_3 := Bw_ hx266_3 HB; replace hx266_4 := Bw_ hx266_4 HB; replace hx266_5 := Bw_ hx266_5 HB; have HR266_5 := Aside0.mk hi266_5; have HC266_5 := Aside0.mk hl266_5; clear hi266_5 hl266_5; replace p266 := eq_true p266; replace q266 := eq_true q266; have p267 : 0 ≤ (a2 : Int) := of_decide_eq_true As_; have q267 : a2 < (((rd_T77 l0_0 a1).f5).length : Int) := of_decide_eq_true As_; obtain ⟨ad267, e267, hx267_0⟩ := Kd.at_int HR266_5.out a2 p267 q267; cases e267; replace hx267_0 := Bw_ hx267_0 HB; replace p267 := eq_true p267; replace q267 := eq_true q267) | (refine Gl_ (some 20) Try.func73 ((spec_l01In.calls (rd ((rd_T77 l0_0 a1).f5) a2) 0 (wrap64 (a1 - 1)) false _ A8.out).mono ?_); rintro e w' ⟨rfl, ⟨nd, rfl⟩⟩; refine ⟨_, rfl, ?_⟩))
      go_ret
      exact ⟨Re_, Hf_ HB⟩
    ·rw [if_neg c7] at H
     exact absurd H (by simp)
   ·rw [if_neg c6] at H
    exact absurd H (by simp)
  ·rw [if_neg c5] at H
   exact absurd H (by simp)
 ·rw [if_neg c4] at H
  exact absurd H (by simp)

/-! ### spec_l05Values: function 123 -/
def spec_l05Values.l0 : Nat → Int → Int → Int → List (S77) → List (S106) → List (S103) → Option (Bool)
 | 0, _, _, _, _, _, _ => none
 | k + 1, x1, x2, x7, x271000, x271001, x271002 => if x7 < x2 then ((spec_l05Kid.f x271000 x271001 x271002 x1 x7).bind fun t271 => ((spec_l05Value.f t271).bind fun t272 => (if t272 = true then (spec_l05Values.l0 k x1 x2 (wrap64 (x7 + 1)) x271000 x271001 x271002) else (some false)))) else (some true)
def spec_l05Values.f (k : Nat) (l0_0 : List (S77)) (l0_1 : List (S106)) (l0_2 : List (S103)) (a1 : Int) (a2 : Int) : Option (Bool) := spec_l05Values.l0 k a1 a2 0 l0_0 l0_1 l0_2
theorem spec_l05Values.calls (k : Nat) (A0_0 : Option Addr) (c0_0 : Nat) (l0_0 : List (S77)) (A0_1 : Option Addr) (c0_1 : Nat) (l0_1 : List (S106)) (A0_2 : Option Addr) (c0_2 : Nat) (l0_2 : List (S103)) (a1 : Int) (a2 : Int) (r : Bool) (w : World) (hr0_0 : Kd.C k77 w A0_0 l0_0.length l0_0) (hc0_0 : l0_0.length ≤ c0_0) (hr0_1 : Kd.C k106 w A0_1 l0_1.length l0_1) (hc0_1 : l0_1.length ≤ c0_1) (hr0_2 : Kd.C k103 w A0_2 l0_2.length l0_2) (hc0_2 : l0_2.length ≤ c0_2) (h : spec_l05Values.f k l0_0 l0_1 l0_2 a1 a2 = some r) :
  Calls Try.prog 123 #[.agg #[.slice A0_0 l0_0.length c0_0, .slice A0_1 l0_1.length c0_1, .slice A0_2 l0_2.length c0_2], .int .i64 a1, .int .i64 a2] w fun e w' => e = .returned (.bool r) ∧ Below w.heap.size w w' := by
 have hu40 := Try.underlying40
 have HR0_0 := Aside0.mk hr0_0
 have HC0_0 := Aside0.mk hc0_0
 clear hr0_0 hc0_0
 have HR0_1 := Aside0.mk hr0_1
 have HC0_1 := Aside0.mk hc0_1
 clear hr0_1 hc0_1
 have HR0_2 := Aside0.mk hr0_2
 have HC0_2 := Aside0.mk hc0_2
 clear hr0_2 hc0_2
 have HB := Aside0.mk (Below.refl w.heap.size w)
 have H : (spec_l05Values.l0 k a1 a2 0 l0_0 l0_1 l0_2) = some r := h
 clear h
 have H' := Aside0.mk H
 clear H
 go_enter Try.func123, Try.ntmps123
 go_wp2_with (first | (refine Bv_ 3 #[.slice A0_0 l0_0.length c0_0, .slice A0_1 l0_1.length c0_1, .slice A0_2 l0_2.length c0_2] 40 ?_; intro gb270 hg w4 BK270 hb; have GW270 := Hg_ HB hg; replace HB := Hs_ HB hb; clear hb hg))
 go_loopg [7] k (fun kq v7 w' => ∃ (x7_1 : Int), v7 = .int .i64 x7_1 ∧ Aside0 (spec_l05Values.l0 kq a1 a2 x7_1 l0_0 l0_1 l0_2 = some r) ∧ Aside0 (kq ≤ k) ∧ Aside0 (w'.heap[gb270]? = some (.cells #[(.slice A0_0 l0_0.length c0_0), (.slice A0_1 l0_1.length c0_1), (.slice A0_2 l0_2.length c0_2)] 40 (0, 0))) ∧ Aside0 (Below w.heap.size w w'))
 case atStart => exact ⟨(0), Rr_, H', ⟨Nat.le_refl _⟩, ⟨Bq_ BK270⟩, ⟨Hf_ HB⟩⟩
 case round =>
  clear H'
  obtain ⟨x7_1, rfl, HA, HK1, BK270, HB⟩ := hrel
  cases gk with
  | zero => exact absurd HA.out (by simp [spec_l05Values.l0])
  | succ k1 =>
   have H := HA.out
   clear HA
   simp only [spec_l05Values.l0] at H
   by_cases c5 : x7_1 < a2
   ·rw [if_pos c5] at H
    have c5b0 := decide_eq_true c5
    clear c5
    obtain ⟨t271, A6, H⟩ := Bo_ H
    obtain ⟨t272, A7, H⟩ := Bo_ H
    by_cases c8 : t272 = true
    ·subst c8
     rw [if_pos rfl] at H
     have H' := Aside0.mk H
     clear H
     obtain ⟨hcz9_0, hcz9_1, hcz9_2, hfz9_0, hfz9_1, hfz9_2⟩ := Bc3_ BK270
     go_wp2_with (first | (refine Gl_ (some 16) Try.func125 ((spec_l05Kid.calls _ _ l0_0 _ _ l0_1 _ _ l0_2 a1 x7_1 t271 _ (Sc_ HR0_0 HB) HC0_0.out (Sc_ HR0_1 HB) HC0_1.out (Sc_ HR0_2 HB) HC0_2.out A6.out).mono ?_); rintro e w10 ⟨rfl, hb⟩; refine ⟨_, rfl, ?_⟩; replace BK270 := Bb_ BK270 hb; replace HB := Hs_ HB hb; clear hb) | (refine Gl_ (some 17) Try.func74 ((spec_l05Value.calls t271 true _ A7.out).mono ?_); rintro e w' ⟨rfl, ⟨nd, rfl⟩⟩; refine ⟨_, rfl, ?_⟩))
     go_roundg k1
     case measure => have := HK1.out; omega
     case rel => exact ⟨(wrap64 (x7_1 + 1)), Rr_, H', ⟨by have := HK1.out; omega⟩, ⟨Bq_ BK270⟩, ⟨Hf_ HB⟩⟩
    ·replace c8 := Bool.eq_false_iff.mpr c8
     subst c8
     rw [if_neg Ff_] at H
     obtain rfl := Option.some.inj H
     obtain ⟨hcz11_0, hcz11_1, hcz11_2, hfz11_0, hfz11_1, hfz11_2⟩ := Bc3_ BK270
     go_wp2_with (first | (refine Gl_ (some 16) Try.func125 ((spec_l05Kid.calls _ _ l0_0 _ _ l0_1 _ _ l0_2 a1 x7_1 t271 _ (Sc_ HR0_0 HB) HC0_0.out (Sc_ HR0_1 HB) HC0_1.out (Sc_ HR0_2 HB) HC0_2.out A6.out).mono ?_); rintro e w12 ⟨rfl, hb⟩; refine ⟨_, rfl, ?_⟩; replace BK270 := Bb_ BK270 hb; replace HB := Hs_ HB hb; clear hb) | (refine Gl_ (some 17) Try.func74 ((spec_l05Value.calls t271 false _ A7.out).mono ?_); rintro e w' ⟨rfl, ⟨nd, rfl⟩⟩; refine ⟨_, rfl, ?_⟩))
     go_ret
     exact ⟨Re_, Hf_ HB⟩
   ·rw [if_neg c5] at H
    have c5b0 := decide_eq_false c5
    clear c5
    obtain rfl := Option.some.inj H
    go_wp2
    go_ret
    exact ⟨Re_, Hf_ HB⟩

end Go.Proofs.Ytmbkcbgbienjoaa.PFnExactValueOf
