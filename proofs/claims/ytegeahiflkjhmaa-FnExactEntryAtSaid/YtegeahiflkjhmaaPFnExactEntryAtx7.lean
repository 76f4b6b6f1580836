/- The machine side of the law FnExactEntryAt: for each function that it reaches, a Lean function and its contract. Written by a program of this session's over the kit's print. No condition. -/
import Derived.Test.YtegeahiflkjhmaaCmq
import Derived.Test.YtegeahiflkjhmaaPFnExactEntryAtx0
import Derived.Test.YtegeahiflkjhmaaPFnExactEntryAtx4
import Derived.Test.YtegeahiflkjhmaaPFnExactEntryAtx6
namespace Go.Proofs.Ytegeahiflkjhmaa.PFnExactEntryAt
open Go.RowKit Go.Proofs.YtegeahiflkjhmaaW.PrintWords Go.Proofs.YtegeahiflkjhmaaW.PrintLast Go.Proofs.YtegeahiflkjhmaaW.PrintMore Go.Proofs.Ytegeahiflkjhmaa.Cmp
attribute [local go_sem] max2_int min2_int max_two min_two max_three min_three max_four min_four   -- for this text's walks alone
set_option linter.unusedVariables false
set_option maxHeartbeats 8000000
set_option maxRecDepth 100000
set_option linter.unusedSimpArgs false

/-! ### laws_eqProcessS: function 101 -/
def laws_eqProcessS.l0 : Nat → List (S130) → List (S130) → Int → Option (Bool)
 | 0, _, _, _ => none
 | k + 1, x0, x1, x5 => if x5 < (x0.length : Int) then (if 0 ≤ x5 then (if x5 < (x1.length : Int) then ((laws_eqProcess.f k ((rd_T130 x0 x5).f0) ((rd_T130 x0 x5).f1) ((rd_T130 x0 x5).f2) ((rd_T130 x0 x5).f3) ((rd_T130 x1 x5).f0) ((rd_T130 x1 x5).f1) ((rd_T130 x1 x5).f2) ((rd_T130 x1 x5).f3)).bind fun t254 => (if t254 = true then (laws_eqProcessS.l0 k x0 x1 (wrap64 (x5 + 1))) else (some false))) else (none)) else (none)) else (some true)
def laws_eqProcessS.f (k : Nat) (l0 : List (S130)) (l1 : List (S130)) : Option (Bool) := if (l0.length : Int) = (l1.length : Int) then (laws_eqProcessS.l0 k l0 l1 0) else (some false)
def laws_eqProcessS.T6 : Bool × List (List Nat × List Nat) := (true, [([], []), ([], []), ([0, 1], [0, 1]), ([2], [2]), ([], []), ([], []), ([4, 5], [4, 5]), ([6], [6]), ([3, 7], [3, 7]), ([8], [8])])
def laws_eqProcessS.B6 : List Nat := [0, 0, 3, 7, 0, 0, 48, 112, 255, 511]
theorem laws_eqProcessS.tab6 : rtab .any (opsOf Try.f101 6) = laws_eqProcessS.T6 := by kernel_rfl
theorem laws_eqProcessS.bits6 : waitsOk laws_eqProcessS.T6.2 laws_eqProcessS.B6 = true := by kernel_rfl
theorem laws_eqProcessS.calls (k : Nat) (A0 : Option Addr) (c0 : Nat) (l0 : List (S130)) (A1 : Option Addr) (c1 : Nat) (l1 : List (S130)) (r : Bool) (w : World) (hr0 : Kd.C k130 w A0 l0.length l0) (hc0 : l0.length ≤ c0) (hr1 : Kd.C k130 w A1 l1.length l1) (hc1 : l1.length ≤ c1) (h : laws_eqProcessS.f k l0 l1 = some r) :
  Calls Try.prog 101 #[.slice A0 l0.length c0, .slice A1 l1.length c1] w fun e w' => e = .returned (.bool r) ∧ Below w.heap.size w w' := by
 have hu130 := Try.underlying130
 have HR0 := Aside0.mk hr0
 have HC0 := Aside0.mk hc0
 clear hr0 hc0
 have HR1 := Aside0.mk hr1
 have HC1 := Aside0.mk hc1
 clear hr1 hc1
 have HB := Aside0.mk (Below.refl w.heap.size w)
 have H : (if (l0.length : Int) = (l1.length : Int) then (laws_eqProcessS.l0 k l0 l1 0) else (some false)) = some r := h
 clear h
 by_cases c3 : (l0.length : Int) = (l1.length : Int)
 ·rw [if_pos c3] at H
  have c3b0 := beq_iff_eq.mpr c3
  have c3b1 := bne_eq_false_iff_eq.mpr c3
  have c3b2 : (l0.length == l1.length) = true := by first | simpa using c3 | (simp at c3 ⊢; omega)
  clear c3
  have H' := Aside0.mk H
  clear H
  go_enter Try.func101, Try.ntmps101
  go_wp2
  go_loopg [5] k (fun kq v5 w' => ∃ (x5_1 : Int), v5 = .int .i64 x5_1 ∧ Aside0 (laws_eqProcessS.l0 kq l0 l1 x5_1 = some r) ∧ Aside0 (kq ≤ k) ∧ Aside0 (Below w.heap.size w w'))
  case atStart => exact ⟨(0), Rr_, H', ⟨Nat.le_refl _⟩, ⟨Hf_ HB⟩⟩
  case round =>
   clear H'
   try clear c1
   try clear p2
   try clear c3
   try clear c3b0
   try clear c3b1
   try clear c3b2
   obtain ⟨x5_1, rfl, HA, HK1, HB⟩ := hrel
   cases gk with
   | zero => exact absurd HA.out (by simp [laws_eqProcessS.l0])
   | succ k1 =>
    have H := HA.out
    clear HA
    simp only [laws_eqProcessS.l0] at H
    by_cases c4 : x5_1 < (l0.length : Int)
    ·rw [if_pos c4] at H
     have c4b0 := decide_eq_true c4
     clear c4
     by_cases c5 : 0 ≤ x5_1
     ·rw [if_pos c5] at H
      have c5b0 := decide_eq_true c5
      clear c5
      by_cases c6 : x5_1 < (l1.length : Int)
      ·rw [if_pos c6] at H
       have c6b0 := decide_eq_true c6
       clear c6
       obtain ⟨t254, A7, H⟩ := Bo_ H
       by_cases c8 : t254 = true
       ·subst c8
        rw [if_pos rfl] at H
        have H' := Aside0.mk H
        clear H
        try go_wp2
        replace HB := Aside0.mk (below_drew1 HB.out)
        have p252 : 0 ≤ (x5_1 : Int) := of_decide_eq_true As_
        have q252 : x5_1 < (l0.length : Int) := of_decide_eq_true As_
        obtain ⟨ad252, A252_1, c252_1, A252_2, c252_2, e252, hx252_0, hx252_1, hx252_2, hx252_3, hl252_1, hi252_1, hl252_2, hi252_2⟩ := at_T130 HR0.out x5_1 p252 q252
        have hw252_3 := hx252_3
        have hw252_2 := hx252_2
        have hw252_1 := hx252_1
        have hw252_0 := hx252_0
        cases e252
        replace hx252_0 := Bw_ hx252_0 HB
        replace hx252_1 := Bw_ hx252_1 HB
        replace hx252_2 := Bw_ hx252_2 HB
        replace hx252_3 := Bw_ hx252_3 HB
        have HR252_1 := Aside0.mk hi252_1
        have HC252_1 := Aside0.mk hl252_1
        clear hi252_1 hl252_1
        have HR252_2 := Aside0.mk hi252_2
        have HC252_2 := Aside0.mk hl252_2
        clear hi252_2 hl252_2
        replace p252 := eq_true p252
        replace q252 := eq_true q252
        have p253 : 0 ≤ (x5_1 : Int) := of_decide_eq_true As_
        have q253 : x5_1 < (l1.length : Int) := of_decide_eq_true As_
        obtain ⟨ad253, A253_1, c253_1, A253_2, c253_2, e253, hx253_0, hx253_1, hx253_2, hx253_3, hl253_1, hi253_1, hl253_2, hi253_2⟩ := at_T130 HR1.out x5_1 p253 q253
        have hw253_3 := hx253_3
        have hw253_2 := hx253_2
        have hw253_1 := hx253_1
        have hw253_0 := hx253_0
        cases e253
        replace hx253_0 := Bw_ hx253_0 HB
        replace hx253_1 := Bw_ hx253_1 HB
        replace hx253_2 := Bw_ hx253_2 HB
        replace hx253_3 := Bw_ hx253_3 HB
        have HR253_1 := Aside0.mk hi253_1
        have HC253_1 := Aside0.mk hl253_1
        clear hi253_1 hl253_1
        have HR253_2 := Aside0.mk hi253_2
        have HC253_2 := Aside0.mk hl253_2
        clear hi253_2 hl253_2
        replace p253 := eq_true p253
        replace q253 := eq_true q253
        refine start_ (n := 10) (S := fun w' => w'.cell? (ad252.add ((x5_1).toNat * 4)) = some (.string ((rd_T130 l0 x5_1).f0)) ∧ w'.cell? ⟨(ad252.add ((x5_1).toNat * 4)).block, (ad252.add ((x5_1).toNat * 4)).off + 1, none⟩ = some (.slice A252_1 ((rd_T130 l0 x5_1).f1).length c252_1) ∧ w'.cell? ⟨(ad252.add ((x5_1).toNat * 4)).block, (ad252.add ((x5_1).toNat * 4)).off + 2, none⟩ = some (.slice A252_2 ((rd_T130 l0 x5_1).f2).length c252_2) ∧ w'.cell? ⟨(ad252.add ((x5_1).toNat * 4)).block, (ad252.add ((x5_1).toNat * 4)).off + 3, none⟩ = some (.int .i64 ((rd_T130 l0 x5_1).f3)) ∧ w'.cell? (ad253.add ((x5_1).toNat * 4)) = some (.string ((rd_T130 l1 x5_1).f0)) ∧ w'.cell? ⟨(ad253.add ((x5_1).toNat * 4)).block, (ad253.add ((x5_1).toNat * 4)).off + 1, none⟩ = some (.slice A253_1 ((rd_T130 l1 x5_1).f1).length c253_1) ∧ w'.cell? ⟨(ad253.add ((x5_1).toNat * 4)).block, (ad253.add ((x5_1).toNat * 4)).off + 2, none⟩ = some (.slice A253_2 ((rd_T130 l1 x5_1).f2).length c253_2) ∧ w'.cell? ⟨(ad253.add ((x5_1).toNat * 4)).block, (ad253.add ((x5_1).toNat * 4)).off + 3, none⟩ = some (.int .i64 ((rd_T130 l1 x5_1).f3))) (ds := []) #[false, false, false, false, false, false, false, false, false, false] (by kernel_rfl) rfl rfl ⟨(Bw_ hw252_0 HB), (Bw_ hw252_1 HB), (Bw_ hw252_2 HB), (Bw_ hw252_3 HB), (Bw_ hw253_0 HB), (Bw_ hw253_1 HB), (Bw_ hw253_2 HB), (Bw_ hw253_3 HB)⟩ (fun hHeld => ?_); refine with_tabW laws_eqProcessS.tab6 laws_eqProcessS.bits6 (fun HT_ HW_ => ?_)
        generalize wr.drew = w9 at HB HR252_1 HR252_2 HR253_1 HR253_2 hx252_0 hx252_1 hx252_2 hx252_3 hx253_0 hx253_1 hx253_2 hx253_3 hHeld ⊢
        refine Pu_ 0 (some 17) HT_ ?_
        refine Pu_ 1 (some 18) HT_ ?_
        refine Pu_ 2 (some 19) HT_ ?_
        refine Pu_ 4 (some 21) HT_ ?_
        refine Pu_ 5 (some 22) HT_ ?_
        refine Pu_ 6 (some 23) HT_ ?_
        refine Tk_ 3 (some 20) HT_ HW_ hHeld ?_
        refine Tk_ 7 (some 24) HT_ HW_ hHeld ?_
        refine On_ 8 (some 25) HT_ (fun K hK => ?_)
        refine Gs_ Try.func134 ((laws_eqProcess.calls k1 ((rd_T130 l0 x5_1).f0) _ _ ((rd_T130 l0 x5_1).f1) _ _ ((rd_T130 l0 x5_1).f2) ((rd_T130 l0 x5_1).f3) ((rd_T130 l1 x5_1).f0) _ _ ((rd_T130 l1 x5_1).f1) _ _ ((rd_T130 l1 x5_1).f2) ((rd_T130 l1 x5_1).f3) true _ (Sc_ HR252_1 HB) HC252_1.out (Sc_ HR252_2 HB) HC252_2.out (Sc_ HR253_1 HB) HC253_1.out (Sc_ HR253_2 HB) HC253_2.out A7.out).mono ?_)
        rintro e w10 ⟨rfl, hb⟩
        refine ⟨_, rfl, ?_⟩
        replace HB := Hs_ HB hb
        clear hb
        refine hK.out _ _ ⟨(Bw_ hw252_0 HB), (Bw_ hw252_1 HB), (Bw_ hw252_2 HB), (Bw_ hw252_3 HB), (Bw_ hw253_0 HB), (Bw_ hw253_1 HB), (Bw_ hw253_2 HB), (Bw_ hw253_3 HB)⟩ (fun hHeld => ?_)
        clear hK K
        refine No_ (some 25) ?_
        refine Pu_ 9 (some 26) HT_ ?_
        refine done_ (done_of HT_.out (by kernel_rfl)) ?_
        try go_wp2
        go_roundg k1
        case measure => have := HK1.out; omega
        case rel => exact ⟨(wrap64 (x5_1 + 1)), Rr_, H', ⟨by have := HK1.out; omega⟩, ⟨Hf_ HB⟩⟩
       ·replace c8 := Bool.eq_false_iff.mpr c8
        subst c8
        rw [if_neg Ff_] at H
        obtain rfl := Option.some.inj H
        try go_wp2
        replace HB := Aside0.mk (below_drew1 HB.out)
        have p252 : 0 ≤ (x5_1 : Int) := of_decide_eq_true As_
        have q252 : x5_1 < (l0.length : Int) := of_decide_eq_true As_
        obtain ⟨ad252, A252_1, c252_1, A252_2, c252_2, e252, hx252_0, hx252_1, hx252_2, hx252_3, hl252_1, hi252_1, hl252_2, hi252_2⟩ := at_T130 HR0.out x5_1 p252 q252
        have hw252_3 := hx252_3
        have hw252_2 := hx252_2
        have hw252_1 := hx252_1
        have hw252_0 := hx252_0
        cases e252
        replace hx252_0 := Bw_ hx252_0 HB
        replace hx252_1 := Bw_ hx252_1 HB
        replace hx252_2 := Bw_ hx252_2 HB
        replace hx252_3 := Bw_ hx252_3 HB
        have HR252_1 := Aside0.mk hi252_1
        have HC252_1 := Aside0.mk hl252_1
        clear hi252_1 hl252_1
        have HR252_2 := Aside0.mk hi252_2
        have HC252_2 := Aside0.mk hl252_2
        clear hi252_2 hl252_2
        replace p252 := eq_true p252
        replace q252 := eq_true q252
        have p253 : 0 ≤ (x5_1 : Int) := of_decide_eq_true As_
        have q253 : x5_1 < (l1.length : Int) := of_decide_eq_true As_
        obtain ⟨ad253, A253_1, c253_1, A253_2, c253_2, e253, hx253_0, hx253_1, hx253_2, hx253_3, hl253_1, hi253_1, hl253_2, hi253_2⟩ := at_T130 HR1.out x5_1 p253 q253
        have hw253_3 := hx253_3
        have hw253_2 := hx253_2
        have hw253_1 := hx253_1
        have hw253_0 := hx253_0
        cases e253
        replace hx253_0 := Bw_ hx253_0 HB
        replace hx253_1 := Bw_ hx253_1 HB
        replace hx253_2 := Bw_ hx253_2 HB
        replace hx253_3 := Bw_ hx253_3 HB
        have HR253_1 := Aside0.mk hi253_1
        have HC253_1 := Aside0.mk hl253_1
        clear hi253_1 hl253_1
        have HR253_2 := Aside0.mk hi253_2
        have HC253_2 := Aside0.mk hl253_2
        clear hi253_2 hl253_2
        replace p253 := eq_true p253
        replace q253 := eq_true q253
        refine start_ (n := 10) (S := fun w' => w'.cell? (ad252.add ((x5_1).toNat * 4)) = some (.string ((rd_T130 l0 x5_1).f0)) ∧ w'.cell? ⟨(ad252.add ((x5_1).toNat * 4)).block, (ad252.add ((x5_1).toNat * 4)).off + 1, none⟩ = some (.slice A252_1 ((rd_T130 l0 x5_1).f1).length c252_1) ∧ w'.cell? ⟨(ad252.add ((x5_1).toNat * 4)).block, (ad252.add ((x5_1).toNat * 4)).off + 2, none⟩ = some (.slice A252_2 ((rd_T130 l0 x5_1).f2).length c252_2) ∧ w'.cell? ⟨(ad252.add ((x5_1).toNat * 4)).block, (ad252.add ((x5_1).toNat * 4)).off + 3, none⟩ = some (.int .i64 ((rd_T130 l0 x5_1).f3)) ∧ w'.cell? (ad253.add ((x5_1).toNat * 4)) = some (.string ((rd_T130 l1 x5_1).f0)) ∧ w'.cell? ⟨(ad253.add ((x5_1).toNat * 4)).block, (ad253.add ((x5_1).toNat * 4)).off + 1, none⟩ = some (.slice A253_1 ((rd_T130 l1 x5_1).f1).length c253_1) ∧ w'.cell? ⟨(ad253.add ((x5_1).toNat * 4)).block, (ad253.add ((x5_1).toNat * 4)).off + 2, none⟩ = some (.slice A253_2 ((rd_T130 l1 x5_1).f2).length c253_2) ∧ w'.cell? ⟨(ad253.add ((x5_1).toNat * 4)).block, (ad253.add ((x5_1).toNat * 4)).off + 3, none⟩ = some (.int .i64 ((rd_T130 l1 x5_1).f3))) (ds := []) #[false, false, false, false, false, false, false, false, false, false] (by kernel_rfl) rfl rfl ⟨(Bw_ hw252_0 HB), (Bw_ hw252_1 HB), (Bw_ hw252_2 HB), (Bw_ hw252_3 HB), (Bw_ hw253_0 HB), (Bw_ hw253_1 HB), (Bw_ hw253_2 HB), (Bw_ hw253_3 HB)⟩ (fun hHeld => ?_); refine with_tabW laws_eqProcessS.tab6 laws_eqProcessS.bits6 (fun HT_ HW_ => ?_)
        generalize wr.drew = w11 at HB HR252_1 HR252_2 HR253_1 HR253_2 hx252_0 hx252_1 hx252_2 hx252_3 hx253_0 hx253_1 hx253_2 hx253_3 hHeld ⊢
        refine Pu_ 0 (some 17) HT_ ?_
        refine Pu_ 1 (some 18) HT_ ?_
        refine Pu_ 2 (some 19) HT_ ?_
        refine Pu_ 4 (some 21) HT_ ?_
        refine Pu_ 5 (some 22) HT_ ?_
        refine Pu_ 6 (some 23) HT_ ?_
        refine Tk_ 3 (some 20) HT_ HW_ hHeld ?_
        refine Tk_ 7 (some 24) HT_ HW_ hHeld ?_
        refine On_ 8 (some 25) HT_ (fun K hK => ?_)
        refine Gs_ Try.func134 ((laws_eqProcess.calls k1 ((rd_T130 l0 x5_1).f0) _ _ ((rd_T130 l0 x5_1).f1) _ _ ((rd_T130 l0 x5_1).f2) ((rd_T130 l0 x5_1).f3) ((rd_T130 l1 x5_1).f0) _ _ ((rd_T130 l1 x5_1).f1) _ _ ((rd_T130 l1 x5_1).f2) ((rd_T130 l1 x5_1).f3) false _ (Sc_ HR252_1 HB) HC252_1.out (Sc_ HR252_2 HB) HC252_2.out (Sc_ HR253_1 HB) HC253_1.out (Sc_ HR253_2 HB) HC253_2.out A7.out).mono ?_)
        rintro e w12 ⟨rfl, hb⟩
        refine ⟨_, rfl, ?_⟩
        replace HB := Hs_ HB hb
        clear hb
        refine hK.out _ _ ⟨(Bw_ hw252_0 HB), (Bw_ hw252_1 HB), (Bw_ hw252_2 HB), (Bw_ hw252_3 HB), (Bw_ hw253_0 HB), (Bw_ hw253_1 HB), (Bw_ hw253_2 HB), (Bw_ hw253_3 HB)⟩ (fun hHeld => ?_)
        clear hK K
        refine No_ (some 25) ?_
        refine Pu_ 9 (some 26) HT_ ?_
        refine done_ (done_of HT_.out (by kernel_rfl)) ?_
        try go_wp2
        go_ret
        exact ⟨Re_, Hf_ HB⟩
      ·rw [if_neg c6] at H
       exact absurd H (by simp)
     ·rw [if_neg c5] at H
      exact absurd H (by simp)
    ·rw [if_neg c4] at H
     have c4b0 := decide_eq_false c4
     clear c4
     obtain rfl := Option.some.inj H
     go_wp2
     go_ret
     exact ⟨Re_, Hf_ HB⟩
 ·rw [if_neg c3] at H
  have c3b0 := beq_eq_false_iff_ne.mpr c3
  have c3b1 := bne_iff_ne.mpr c3
  have c3b2 : (l0.length == l1.length) = false := by first | simpa using c3 | (simp at c3 ⊢; omega)
  obtain rfl := Option.some.inj H
  go_enter Try.func101, Try.ntmps101
  go_wp2
  go_ret
  exact ⟨Re_, Hf_ HB⟩

/-! ### laws_eqProgram: function 48 -/
def laws_eqProgram.f (k : Nat) (l0_0 : List (S132)) (l0_1 : List (S114)) (l0_2 : List (S130)) (l1_0 : List (S132)) (l1_1 : List (S114)) (l1_2 : List (S130)) : Option (Bool) := (laws_eqNodeS.f k l0_0 l1_0).bind fun t257 => (if t257 = true then ((laws_eqMonitorS.f k l0_1 l1_1).bind fun t258 => (if t258 = true then ((laws_eqProcessS.f k l0_2 l1_2).bind fun t259 => (if t259 = true then (some true) else (some false))) else (some false))) else (some false))
theorem laws_eqProgram.calls (k : Nat) (A0_0 : Option Addr) (c0_0 : Nat) (l0_0 : List (S132)) (A0_1 : Option Addr) (c0_1 : Nat) (l0_1 : List (S114)) (A0_2 : Option Addr) (c0_2 : Nat) (l0_2 : List (S130)) (A1_0 : Option Addr) (c1_0 : Nat) (l1_0 : List (S132)) (A1_1 : Option Addr) (c1_1 : Nat) (l1_1 : List (S114)) (A1_2 : Option Addr) (c1_2 : Nat) (l1_2 : List (S130)) (r : Bool) (w : World) (hr0_0 : Kd.C k132 w A0_0 l0_0.length l0_0) (hc0_0 : l0_0.length ≤ c0_0) (hr0_1 : Kd.C k114 w A0_1 l0_1.length l0_1) (hc0_1 : l0_1.length ≤ c0_1) (hr0_2 : Kd.C k130 w A0_2 l0_2.length l0_2) (hc0_2 : l0_2.length ≤ c0_2) (hr1_0 : Kd.C k132 w A1_0 l1_0.length l1_0) (hc1_0 : l1_0.length ≤ c1_0) (hr1_1 : Kd.C k114 w A1_1 l1_1.length l1_1) (hc1_1 : l1_1.length ≤ c1_1) (hr1_2 : Kd.C k130 w A1_2 l1_2.length l1_2) (hc1_2 : l1_2.length ≤ c1_2) (h : laws_eqProgram.f k l0_0 l0_1 l0_2 l1_0 l1_1 l1_2 = some r) :
  Calls Try.prog 48 #[.agg #[.slice A0_0 l0_0.length c0_0, .slice A0_1 l0_1.length c0_1, .slice A0_2 l0_2.length c0_2], .agg #[.slice A1_0 l1_0.length c1_0, .slice A1_1 l1_1.length c1_1, .slice A1_2 l1_2.length c1_2]] w fun e w' => e = .returned (.bool r) ∧ Below w.heap.size w w' := by
 have hu73 := Try.underlying73
 have HR0_0 := Aside0.mk hr0_0
 have HC0_0 := Aside0.mk hc0_0
 clear hr0_0 hc0_0
 have HR0_1 := Aside0.mk hr0_1
 have HC0_1 := Aside0.mk hc0_1
 clear hr0_1 hc0_1
 have HR0_2 := Aside0.mk hr0_2
 have HC0_2 := Aside0.mk hc0_2
 clear hr0_2 hc0_2
 have HR1_0 := Aside0.mk hr1_0
 have HC1_0 := Aside0.mk hc1_0
 clear hr1_0 hc1_0
 have HR1_1 := Aside0.mk hr1_1
 have HC1_1 := Aside0.mk hc1_1
 clear hr1_1 hc1_1
 have HR1_2 := Aside0.mk hr1_2
 have HC1_2 := Aside0.mk hc1_2
 clear hr1_2 hc1_2
 have HB := Aside0.mk (Below.refl w.heap.size w)
 have H : ((laws_eqNodeS.f k l0_0 l1_0).bind fun t257 => (if t257 = true then ((laws_eqMonitorS.f k l0_1 l1_1).bind fun t258 => (if t258 = true then ((laws_eqProcessS.f k l0_2 l1_2).bind fun t259 => (if t259 = true then (some true) else (some false))) else (some false))) else (some false))) = some r := h
 clear h
 obtain ⟨t257, A3, H⟩ := Bo_ H
 by_cases c4 : t257 = true
 ·subst c4
  rw [if_pos rfl] at H
  obtain ⟨t258, A5, H⟩ := Bo_ H
  by_cases c6 : t258 = true
  ·subst c6
   rw [if_pos rfl] at H
   obtain ⟨t259, A7, H⟩ := Bo_ H
   by_cases c8 : t259 = true
   ·subst c8
    rw [if_pos rfl] at H
    obtain rfl := Option.some.inj H
    go_enter Try.func48, Try.ntmps48
    go_wp2_with (first | (refine Bv_ 2 #[.slice A0_0 l0_0.length c0_0, .slice A0_1 l0_1.length c0_1, .slice A0_2 l0_2.length c0_2] 73 ?_; intro gb255 hg w9 BK255 hb; have GW255 := Hg_ HB hg; replace HB := Hs_ HB hb; clear hb hg) | (refine Bv_ 3 #[.slice A1_0 l1_0.length c1_0, .slice A1_1 l1_1.length c1_1, .slice A1_2 l1_2.length c1_2] 73 ?_; intro gb256 hg w10 BK256 hb; have GW256 := Hg_ HB hg; have NB255_256 := Bl_ BK255 hg; have NB256_255 := Bm_ NB255_256; replace BK255 := Bb_ BK255 hb; replace HB := Hs_ HB hb; clear hb hg; have hnb11 := NB255_256.out; have hnc11 := NB256_255.out; obtain ⟨hcz12_0, hcz12_1, hcz12_2, hfz12_0, hfz12_1, hfz12_2⟩ := Bc3_ BK255; obtain ⟨hcz13_0, hcz13_1, hcz13_2, hfz13_0, hfz13_1, hfz13_2⟩ := Bc3_ BK256) | (refine Gl_ (some 9) Try.func99 ((laws_eqNodeS.calls k _ _ l0_0 _ _ l1_0 true _ (Sc_ HR0_0 HB) HC0_0.out (Sc_ HR1_0 HB) HC1_0.out A3.out).mono ?_); rintro e w14 ⟨rfl, hb⟩; refine ⟨_, rfl, ?_⟩; replace BK255 := Bb_ BK255 hb; replace BK256 := Bb_ BK256 hb; replace HB := Hs_ HB hb; clear hb; obtain ⟨hcz15_0, hcz15_1, hcz15_2, hfz15_0, hfz15_1, hfz15_2⟩ := Bc3_ BK255; obtain ⟨hcz16_0, hcz16_1, hcz16_2, hfz16_0, hfz16_1, hfz16_2⟩ := Bc3_ BK256) | (refine Gl_ (some 15) Try.func100 ((laws_eqMonitorS.calls k _ _ l0_1 _ _ l1_1 true _ (Sc_ HR0_1 HB) HC0_1.out (Sc_ HR1_1 HB) HC1_1.out A5.out).mono ?_); rintro e w17 ⟨rfl, hb⟩; refine ⟨_, rfl, ?_⟩; replace BK255 := Bb_ BK255 hb; replace BK256 := Bb_ BK256 hb; replace HB := Hs_ HB hb; clear hb; obtain ⟨hcz18_0, hcz18_1, hcz18_2, hfz18_0, hfz18_1, hfz18_2⟩ := Bc3_ BK255; obtain ⟨hcz19_0, hcz19_1, hcz19_2, hfz19_0, hfz19_1, hfz19_2⟩ := Bc3_ BK256) | (refine Gl_ (some 21) Try.func101 ((laws_eqProcessS.calls k _ _ l0_2 _ _ l1_2 true _ (Sc_ HR0_2 HB) HC0_2.out (Sc_ HR1_2 HB) HC1_2.out A7.out).mono ?_); rintro e w20 ⟨rfl, hb⟩; refine ⟨_, rfl, ?_⟩; replace BK255 := Bb_ BK255 hb; replace BK256 := Bb_ BK256 hb; replace HB := Hs_ HB hb; clear hb))
    go_ret
    exact ⟨Re_, Hf_ HB⟩
   ·replace c8 := Bool.eq_false_iff.mpr c8
    subst c8
    rw [if_neg Ff_] at H
    obtain rfl := Option.some.inj H
    go_enter Try.func48, Try.ntmps48
    go_wp2_with (first | (refine Bv_ 2 #[.slice A0_0 l0_0.length c0_0, .slice A0_1 l0_1.length c0_1, .slice A0_2 l0_2.length c0_2] 73 ?_; intro gb255 hg w21 BK255 hb; have GW255 := Hg_ HB hg; replace HB := Hs_ HB hb; clear hb hg) | (refine Bv_ 3 #[.slice A1_0 l1_0.length c1_0, .slice A1_1 l1_1.length c1_1, .slice A1_2 l1_2.length c1_2] 73 ?_; intro gb256 hg w22 BK256 hb; have GW256 := Hg_ HB hg; have NB255_256 := Bl_ BK255 hg; have NB256_255 := Bm_ NB255_256; replace BK255 := Bb_ BK255 hb; replace HB := Hs_ HB hb; clear hb hg; have hnb23 := NB255_256.out; have hnc23 := NB256_255.out; obtain ⟨hcz24_0, hcz24_1, hcz24_2, hfz24_0, hfz24_1, hfz24_2⟩ := Bc3_ BK255; obtain ⟨hcz25_0, hcz25_1, hcz25_2, hfz25_0, hfz25_1, hfz25_2⟩ := Bc3_ BK256) | (refine Gl_ (some 9) Try.func99 ((laws_eqNodeS.calls k _ _ l0_0 _ _ l1_0 true _ (Sc_ HR0_0 HB) HC0_0.out (Sc_ HR1_0 HB) HC1_0.out A3.out).mono ?_); rintro e w26 ⟨rfl, hb⟩; refine ⟨_, rfl, ?_⟩; replace BK255 := Bb_ BK255 hb; replace BK256 := Bb_ BK256 hb; replace HB := Hs_ HB hb; clear hb; obtain ⟨hcz27_0, hcz27_1, hcz27_2, hfz27_0, hfz27_1, hfz27_2⟩ := Bc3_ BK255; obtain ⟨hcz28_0, hcz28_1, hcz28_2, hfz28_0, hfz28_1, hfz28_2⟩ := Bc3_ BK256) | (refine Gl_ (some 15) Try.func100 ((laws_eqMonitorS.calls k _ _ l0_1 _ _ l1_1 true _ (Sc_ HR0_1 HB) HC0_1.out (Sc_ HR1_1 HB) HC1_1.out A5.out).mono ?_); rintro e w29 ⟨rfl, hb⟩; refine ⟨_, rfl, ?_⟩; replace BK255 := Bb_ BK255 hb; replace BK256 := Bb_ BK256 hb; replace HB := Hs_ HB hb; clear hb; obtain ⟨hcz30_0, hcz30_1, hcz30_2, hfz30_0, hfz30_1, hfz30_2⟩ := Bc3_ BK255; obtain ⟨hcz31_0, hcz31_1, hcz31_2, hfz31_0, hfz31_1, hfz31_2⟩ := Bc3_ BK256) | (refine Gl_ (some 21) Try.func101 ((laws_eqProcessS.calls k _ _ l0_2 _ _ l1_2 false _ (Sc_ HR0_2 HB) HC0_2.out (Sc_ HR1_2 HB) HC1_2.out A7.out).mono ?_); rintro e w32 ⟨rfl, hb⟩; refine ⟨_, rfl, ?_⟩; replace BK255 := Bb_ BK255 hb; replace BK256 := Bb_ BK256 hb; replace HB := Hs_ HB hb; clear hb))
    go_ret
    exact ⟨Re_, Hf_ HB⟩
  ·replace c6 := Bool.eq_false_iff.mpr c6
   subst c6
   rw [if_neg Ff_] at H
   obtain rfl := Option.some.inj H
   go_enter Try.func48, Try.ntmps48
   go_wp2_with (first | (refine Bv_ 2 #[.slice A0_0 l0_0.length c0_0, .slice A0_1 l0_1.length c0_1, .slice A0_2 l0_2.length c0_2] 73 ?_; intro gb255 hg w33 BK255 hb; have GW255 := Hg_ HB hg; replace HB := Hs_ HB hb; clear hb hg) | (refine Bv_ 3 #[.slice A1_0 l1_0.length c1_0, .slice A1_1 l1_1.length c1_1, .slice A1_2 l1_2.length c1_2] 73 ?_; intro gb256 hg w34 BK256 hb; have GW256 := Hg_ HB hg; have NB255_256 := Bl_ BK255 hg; have NB256_255 := Bm_ NB255_256; replace BK255 := Bb_ BK255 hb; replace HB := Hs_ HB hb; clear hb hg; have hnb35 := NB255_256.out; have hnc35 := NB256_255.out; obtain ⟨hcz36_0, hcz36_1, hcz36_2, hfz36_0, hfz36_1, hfz36_2⟩ := Bc3_ BK255; obtain ⟨hcz37_0, hcz37_1, hcz37_2, hfz37_0, hfz37_1, hfz37_2⟩ := Bc3_ BK256) | (refine Gl_ (some 9) Try.func99 ((laws_eqNodeS.calls k _ _ l0_0 _ _ l1_0 true _ (Sc_ HR0_0 HB) HC0_0.out (Sc_ HR1_0 HB) HC1_0.out A3.out).mono ?_); rintro e w38 ⟨rfl, hb⟩; refine ⟨_, rfl, ?_⟩; replace BK255 := Bb_ BK255 hb; replace BK256 := Bb_ BK256 hb; replace HB := Hs_ HB hb; clear hb; obtain ⟨hcz39_0, hcz39_1, hcz39_2, hfz39_0, hfz39_1, hfz39_2⟩ := Bc3_ BK255; obtain ⟨hcz40_0, hcz40_1, hcz40_2, hfz40_0, hfz40_1, hfz40_2⟩ := Bc3_ BK256) | (refine Gl_ (some 15) Try.func100 ((laws_eqMonitorS.calls k _ _ l0_1 _ _ l1_1 false _ (Sc_ HR0_1 HB) HC0_1.out (Sc_ HR1_1 HB) HC1_1.out A5.out).mono ?_); rintro e w41 ⟨rfl, hb⟩; refine ⟨_, rfl, ?_⟩; replace BK255 := Bb_ BK255 hb; replace BK256 := Bb_ BK256 hb; replace HB := Hs_ HB hb; clear hb))
   go_ret
   exact ⟨Re_, Hf_ HB⟩
 ·replace c4 := Bool.eq_false_iff.mpr c4
  subst c4
  rw [if_neg Ff_] at H
  obtain rfl := Option.some.inj H
  go_enter Try.func48, Try.ntmps48
  go_wp2_with (first | (refine Bv_ 2 #[.slice A0_0 l0_0.length c0_0, .slice A0_1 l0_1.length c0_1, .slice A0_2 l0_2.length c0_2] 73 ?_; intro gb255 hg w42 BK255 hb; have GW255 := Hg_ HB hg; replace HB := Hs_ HB hb; clear hb hg) | (refine Bv_ 3 #[.slice A1_0 l1_0.length c1_0, .slice A1_1 l1_1.length c1_1, .slice A1_2 l1_2.length c1_2] 73 ?_; intro gb256 hg w43 BK256 hb; have GW256 := Hg_ HB hg; have NB255_256 := Bl_ BK255 hg; have NB256_255 := Bm_ NB255_256; replace BK255 := Bb_ BK255 hb; replace HB := Hs_ HB hb; clear hb hg; have hnb44 := NB255_256.out; have hnc44 := NB256_255.out; obtain ⟨hcz45_0, hcz45_1, hcz45_2, hfz45_0, hfz45_1, hfz45_2⟩ := Bc3_ BK255; obtain ⟨hcz46_0, hcz46_1, hcz46_2, hfz46_0, hfz46_1, hfz46_2⟩ := Bc3_ BK256) | (refine Gl_ (some 9) Try.func99 ((laws_eqNodeS.calls k _ _ l0_0 _ _ l1_0 false _ (Sc_ HR0_0 HB) HC0_0.out (Sc_ HR1_0 HB) HC1_0.out A3.out).mono ?_); rintro e w47 ⟨rfl, hb⟩; refine ⟨_, rfl, ?_⟩; replace BK255 := Bb_ BK255 hb; replace BK256 := Bb_ BK256 hb; replace HB := Hs_ HB hb; clear hb))
  go_ret
  exact ⟨Re_, Hf_ HB⟩

/-! ### spec_l01In: function 102 -/
def spec_l01In.f (a0 : Int) (a1 : Int) (a2 : Int) : Option (Bool) := if a0 ≥ a1 then (some (decide (a0 ≤ a2))) else (some false)
theorem spec_l01In.calls (a0 : Int) (a1 : Int) (a2 : Int) (r : Bool) (w : World) (h : spec_l01In.f a0 a1 a2 = some r) :
  Calls Try.prog 102 #[.int .i64 a0, .int .i64 a1, .int .i64 a2] w fun e w' => e = .returned (.bool r) ∧ Drawn0 w w' := by
 have H : (if a0 ≥ a1 then (some (decide (a0 ≤ a2))) else (some false)) = some r := h
 clear h
 by_cases c4 : a0 ≥ a1
 ·rw [if_pos c4] at H
  have c4b0 : decide (a1 ≤ a0) = true := decide_eq_true c4
  clear c4
  obtain rfl := Option.some.inj H
  go_enter Try.func102, Try.ntmps102
  go_wp2
  go_ret
  exact ⟨by first | rfl | (simp; done) | (simp [*]; done), by repeat (first | exact Drawn0.refl _ | apply Drawn0.step)⟩
 ·rw [if_neg c4] at H
  have c4b0 : decide (a1 ≤ a0) = false := decide_eq_false c4
  clear c4
  obtain rfl := Option.some.inj H
  go_enter Try.func102, Try.ntmps102
  go_wp2
  go_ret
  exact ⟨by first | rfl | (simp; done) | (simp [*]; done), by repeat (first | exact Drawn0.refl _ | apply Drawn0.step)⟩

/-! ### spec_EntryAt: function 49 -/
def spec_EntryAt.l0 : Nat → Int → ByteArray → Int → List (S132) → List (S114) → List (S130) → Option (Int)
 | 0, _, _, _, _, _, _ => none
 | k + 1, x1, x2, x7, x261000, x261001, x261002 => if 0 ≤ x1 then (if x1 < (x261001.length : Int) then (if x7 < (((rd_T114 x261001 x1).f3).length : Int) then (if 0 ≤ x7 then (if ((rd_T125 ((rd_T114 x261001 x1).f3) x7).f0).toList = x2.toList then (some x7) else (spec_EntryAt.l0 k x1 x2 (wrap64 (x7 + 1)) x261000 x261001 x261002)) else (none)) else (some (-1))) else (none)) else (none)
def spec_EntryAt.f (k : Nat) (l0_0 : List (S132)) (l0_1 : List (S114)) (l0_2 : List (S130)) (a1 : Int) (a2 : ByteArray) : Option (Int) := (spec_l01In.f a1 0 (wrap64 ((l0_1.length : Int) - 1))).bind fun t261 => (if t261 = true then (spec_EntryAt.l0 k a1 a2 0 l0_0 l0_1 l0_2) else (some (-1)))
theorem spec_EntryAt.calls (k : Nat) (A0_0 : Option Addr) (c0_0 : Nat) (l0_0 : List (S132)) (A0_1 : Option Addr) (c0_1 : Nat) (l0_1 : List (S114)) (A0_2 : Option Addr) (c0_2 : Nat) (l0_2 : List (S130)) (a1 : Int) (a2 : ByteArray) (r : Int) (w : World) (hr0_0 : Kd.C k132 w A0_0 l0_0.length l0_0) (hc0_0 : l0_0.length ≤ c0_0) (hr0_1 : Kd.C k114 w A0_1 l0_1.length l0_1) (hc0_1 : l0_1.length ≤ c0_1) (hr0_2 : Kd.C k130 w A0_2 l0_2.length l0_2) (hc0_2 : l0_2.length ≤ c0_2) (h : spec_EntryAt.f k l0_0 l0_1 l0_2 a1 a2 = some r) :
  Calls Try.prog 49 #[.agg #[.slice A0_0 l0_0.length c0_0, .slice A0_1 l0_1.length c0_1, .slice A0_2 l0_2.length c0_2], .int .i64 a1, .string a2] w fun e w' => e = .returned (.int .i64 r) ∧ Below w.heap.size w w' := by
 have hu73 := Try.underlying73
 have HR0_0 := Aside0.mk hr0_0
 have HC0_0 := Aside0.mk hc0_0
 clear hr0_0 hc0_0
 have HR0_1 := Aside0.mk hr0_1
 have HC0_1 := Aside0.mk hc0_1
 clear hr0_1 hc0_1
 have HR0_2 := Aside0.mk hr0_2
 have HC0_2 := Aside0.mk hc0_2
 clear hr0_2 hc0_2
 have HB := Aside0.mk (Below.refl w.heap.size w)
 have H : ((spec_l01In.f a1 0 (wrap64 ((l0_1.length : Int) - 1))).bind fun t261 => (if t261 = true then (spec_EntryAt.l0 k a1 a2 0 l0_0 l0_1 l0_2) else (some (-1)))) = some r := h
 clear h
 obtain ⟨t261, A4, H⟩ := Bo_ H
 by_cases c5 : t261 = true
 ·subst c5
  rw [if_pos rfl] at H
  have H' := Aside0.mk H
  clear H
  go_enter Try.func49, Try.ntmps49
  go_wp2_with (first | (refine Bv_ 3 #[.slice A0_0 l0_0.length c0_0, .slice A0_1 l0_1.length c0_1, .slice A0_2 l0_2.length c0_2] 73 ?_; intro gb260 hg w6 BK260 hb; have GW260 := Hg_ HB hg; replace HB := Hs_ HB hb; clear hb hg; obtain ⟨hcz7_0, hcz7_1, hcz7_2, hfz7_0, hfz7_1, hfz7_2⟩ := Bc3_ BK260) | (refine Gl_ (some 13) Try.func102 ((spec_l01In.calls a1 0 (wrap64 ((l0_1.length : Int) - 1)) true _ A4.out).mono ?_); rintro e w' ⟨rfl, ⟨nd, rfl⟩⟩; refine ⟨_, rfl, ?_⟩))
  go_loopg [7] k (fun kq v7 w' => ∃ (x7_1 : Int), v7 = .int .i64 x7_1 ∧ Aside0 (spec_EntryAt.l0 kq a1 a2 x7_1 l0_0 l0_1 l0_2 = some r) ∧ Aside0 (kq ≤ k) ∧ Aside0 (w'.heap[gb260]? = some (.cells #[(.slice A0_0 l0_0.length c0_0), (.slice A0_1 l0_1.length c0_1), (.slice A0_2 l0_2.length c0_2)] 73 (0, 0))) ∧ Aside0 (Below w.heap.size w w'))
  case atStart => exact ⟨(0), Rr_, H', ⟨Nat.le_refl _⟩, ⟨Bq_ BK260⟩, ⟨Hf_ HB⟩⟩
  case round =>
   clear H'
   try clear c1
   try clear p2
   try clear c4
   try clear c5
   try clear p6
   try clear hcz7_0
   try clear hcz7_1
   try clear hcz7_2
   try clear hfz7_0
   try clear hfz7_1
   try clear hfz7_2
   obtain ⟨x7_1, rfl, HA, HK1, BK260, HB⟩ := hrel
   cases gk with
   | zero => exact absurd HA.out (by simp [spec_EntryAt.l0])
   | succ k1 =>
    have H := HA.out
    clear HA
    simp only [spec_EntryAt.l0] at H
    by_cases c8 : 0 ≤ a1
    ·rw [if_pos c8] at H
     have c8b0 := decide_eq_true c8
     clear c8
     by_cases c9 : a1 < (l0_1.length : Int)
     ·rw [if_pos c9] at H
      have c9b0 := decide_eq_true c9
      clear c9
      by_cases c10 : x7_1 < (((rd_T114 l0_1 a1).f3).length : Int)
      ·rw [if_pos c10] at H
       have c10b0 := decide_eq_true c10
       clear c10
       by_cases c11 : 0 ≤ x7_1
       ·rw [if_pos c11] at H
        have c11b0 := decide_eq_true c11
        clear c11
        by_cases c12 : ((rd_T125 ((rd_T114 l0_1 a1).f3) x7_1).f0).toList = a2.toList
        ·rw [if_pos c12] at H
         have c12b0 := beq_iff_eq.mpr c12
         have c12b1 := bne_eq_false_iff_eq.mpr c12
         clear c12
         obtain rfl := Option.some.inj H
         obtain ⟨hcz13_0, hcz13_1, hcz13_2, hfz13_0, hfz13_1, hfz13_2⟩ := Bc3_ BK260
         have p262 : 0 ≤ (a1 : Int) := of_decide_eq_true As_
         have q262 : a1 < (l0_1.length : Int) := of_decide_eq_true As_
         obtain ⟨ad262, A262_1, c262_1, A262_2, c262_2, A262_3, c262_3, e262, hx262_0, hx262_1, hx262_2, hx262_3, hl262_1, hi262_1, hl262_2, hi262_2, hl262_3, hi262_3⟩ := at_T114 HR0_1.out a1 p262 q262
         cases e262
         replace hx262_0 := Bw_ hx262_0 HB
         replace hx262_1 := Bw_ hx262_1 HB
         replace hx262_2 := Bw_ hx262_2 HB
         replace hx262_3 := Bw_ hx262_3 HB
         have HR262_1 := Aside0.mk hi262_1
         have HC262_1 := Aside0.mk hl262_1
         clear hi262_1 hl262_1
         have HR262_2 := Aside0.mk hi262_2
         have HC262_2 := Aside0.mk hl262_2
         clear hi262_2 hl262_2
         have HR262_3 := Aside0.mk hi262_3
         have HC262_3 := Aside0.mk hl262_3
         clear hi262_3 hl262_3
         replace p262 := eq_true p262
         replace q262 := eq_true q262
         have p263 : 0 ≤ (a1 : Int) := of_decide_eq_true As_
         have q263 : a1 < (l0_1.length : Int) := of_decide_eq_true As_
         obtain ⟨ad263, A263_1, c263_1, A263_2, c263_2, A263_3, c263_3, e263, hx263_0, hx263_1, hx263_2, hx263_3, hl263_1, hi263_1, hl263_2, hi263_2, hl263_3, hi263_3⟩ := at_T114 HR0_1.out a1 p263 q263
         obtain rfl : ad262 = ad263 := (by injection e263)
         replace hx263_0 := Bw_ hx263_0 HB
         replace hx263_1 := Bw_ hx263_1 HB
         replace hx263_2 := Bw_ hx263_2 HB
         replace hx263_3 := Bw_ hx263_3 HB
         have HR263_1 := Aside0.mk hi263_1
         have HC263_1 := Aside0.mk hl263_1
         clear hi263_1 hl263_1
         have HR263_2 := Aside0.mk hi263_2
         have HC263_2 := Aside0.mk hl263_2
         clear hi263_2 hl263_2
         have HR263_3 := Aside0.mk hi263_3
         have HC263_3 := Aside0.mk hl263_3
         clear hi263_3 hl263_3
         replace p263 := eq_true p263
         replace q263 := eq_true q263
         have ea_ := Option.some.inj (hx262_1.symm.trans hx263_1)
         injection ea_ with ea_ en_ ec_
         subst ea_
         subst ec_
         clear en_
         have ea_ := Option.some.inj (hx262_2.symm.trans hx263_2)
         injection ea_ with ea_ en_ ec_
         subst ea_
         subst ec_
         clear en_
         have ea_ := Option.some.inj (hx262_3.symm.trans hx263_3)
         injection ea_ with ea_ en_ ec_
         subst ea_
         subst ec_
         clear en_
         have p264 : 0 ≤ (x7_1 : Int) := of_decide_eq_true As_
         have q264 : x7_1 < (((rd_T114 l0_1 a1).f3).length : Int) := of_decide_eq_true As_
         obtain ⟨ad264, e264, hx264_0, hx264_1, hx264_2⟩ := at_T125 HR263_3.out x7_1 p264 q264
         cases e264
         replace hx264_0 := Bw_ hx264_0 HB
         replace hx264_1 := Bw_ hx264_1 HB
         replace hx264_2 := Bw_ hx264_2 HB
         replace p264 := eq_true p264
         replace q264 := eq_true q264
         go_wp2
         go_ret
         exact ⟨Re_, Hf_ HB⟩
        ·rw [if_neg c12] at H
         have c12b0 := beq_eq_false_iff_ne.mpr c12
         have c12b1 := bne_iff_ne.mpr c12
         have H' := Aside0.mk H
         clear H
         obtain ⟨hcz14_0, hcz14_1, hcz14_2, hfz14_0, hfz14_1, hfz14_2⟩ := Bc3_ BK260
         have p262 : 0 ≤ (a1 : Int) := of_decide_eq_true As_
         have q262 : a1 < (l0_1.length : Int) := of_decide_eq_true As_
         obtain ⟨ad262, A262_1, c262_1, A262_2, c262_2, A262_3, c262_3, e262, hx262_0, hx262_1, hx262_2, hx262_3, hl262_1, hi262_1, hl262_2, hi262_2, hl262_3, hi262_3⟩ := at_T114 HR0_1.out a1 p262 q262
         cases e262
         replace hx262_0 := Bw_ hx262_0 HB
         replace hx262_1 := Bw_ hx262_1 HB
         replace hx262_2 := Bw_ hx262_2 HB
         replace hx262_3 := Bw_ hx262_3 HB
         have HR262_1 := Aside0.mk hi262_1
         have HC262_1 := Aside0.mk hl262_1
         clear hi262_1 hl262_1
         have HR262_2 := Aside0.mk hi262_2
         have HC262_2 := Aside0.mk hl262_2
         clear hi262_2 hl262_2
         have HR262_3 := Aside0.mk hi262_3
         have HC262_3 := Aside0.mk hl262_3
         clear hi262_3 hl262_3
         replace p262 := eq_true p262
         replace q262 := eq_true q262
         have p263 : 0 ≤ (a1 : Int) := of_decide_eq_true As_
         have q263 : a1 < (l0_1.length : Int) := of_decide_eq_true As_
         obtain ⟨ad263, A263_1, c263_1, A263_2, c263_2, A263_3, c263_3, e263, hx263_0, hx263_1, hx263_2, hx263_3, hl263_1, hi263_1, hl263_2, hi263_2, hl263_3, hi263_3⟩ := at_T114 HR0_1.out a1 p263 q263
         obtain rfl : ad262 = ad263 := (by injection e263)
         replace hx263_0 := Bw_ hx263_0 HB
         replace hx263_1 := Bw_ hx263_1 HB
         replace hx263_2 := Bw_ hx263_2 HB
         replace hx263_3 := Bw_ hx263_3 HB
         have HR263_1 := Aside0.mk hi263_1
         have HC263_1 := Aside0.mk hl263_1
         clear hi263_1 hl263_1
         have HR263_2 := Aside0.mk hi263_2
         have HC263_2 := Aside0.mk hl263_2
         clear hi263_2 hl263_2
         have HR263_3 := Aside0.mk hi263_3
         have HC263_3 := Aside0.mk hl263_3
         clear hi263_3 hl263_3
         replace p263 := eq_true p263
         replace q263 := eq_true q263
         have ea_ := Option.some.inj (hx262_1.symm.trans hx263_1)
         injection ea_ with ea_ en_ ec_
         subst ea_
         subst ec_
         clear en_
         have ea_ := Option.some.inj (hx262_2.symm.trans hx263_2)
         injection ea_ with ea_ en_ ec_
         subst ea_
         subst ec_
         clear en_
         have ea_ := Option.some.inj (hx262_3.symm.trans hx263_3)
         injection ea_ with ea_ en_ ec_
         subst ea_
         subst ec_
         clear en_
         have p264 : 0 ≤ (x7_1 : Int) := of_decide_eq_true As_
         have q264 : x7_1 < (((rd_T114 l0_1 a1).f3).length : Int) := of_decide_eq_true As_
         obtain ⟨ad264, e264, hx264_0, hx264_1, hx264_2⟩ := at_T125 HR263_3.out x7_1 p264 q264
         cases e264
         replace hx264_0 := Bw_ hx264_0 HB
         replace hx264_1 := Bw_ hx264_1 HB
         replace hx264_2 := Bw_ hx264_2 HB
         replace p264 := eq_true p264
         replace q264 := eq_true q264
         go_wp2
         go_roundg k1
         case measure => have := HK1.out; omega
         case rel => exact ⟨(wrap64 (x7_1 + 1)), Rr_, H', ⟨by have := HK1.out; omega⟩, ⟨Bq_ BK260⟩, ⟨Hf_ HB⟩⟩
       ·rw [if_neg c11] at H
        exact absurd H (by simp)
      ·rw [if_neg c10] at H
       have c10b0 := decide_eq_false c10
       clear c10
       obtain rfl := Option.some.inj H
       obtain ⟨hcz15_0, hcz15_1, hcz15_2, hfz15_0, hfz15_1, hfz15_2⟩ := Bc3_ BK260
       have p262 : 0 ≤ (a1 : Int) := of_decide_eq_true As_
       have q262 : a1 < (l0_1.length : Int) := of_decide_eq_true As_
       obtain ⟨ad262, A262_1, c262_1, A262_2, c262_2, A262_3, c262_3, e262, hx262_0, hx262_1, hx262_2, hx262_3, hl262_1, hi262_1, hl262_2, hi262_2, hl262_3, hi262_3⟩ := at_T114 HR0_1.out a1 p262 q262
       cases e262
       replace hx262_0 := Bw_ hx262_0 HB
       replace hx262_1 := Bw_ hx262_1 HB
       replace hx262_2 := Bw_ hx262_2 HB
       replace hx262_3 := Bw_ hx262_3 HB
       have HR262_1 := Aside0.mk hi262_1
       have HC262_1 := Aside0.mk hl262_1
       clear hi262_1 hl262_1
       have HR262_2 := Aside0.mk hi262_2
       have HC262_2 := Aside0.mk hl262_2
       clear hi262_2 hl262_2
       have HR262_3 := Aside0.mk hi262_3
       have HC262_3 := Aside0.mk hl262_3
       clear hi262_3 hl262_3
       replace p262 := eq_true p262
       replace q262 := eq_true q262
       go_wp2
       go_ret
       exact ⟨Re_, Hf_ HB⟩
     ·rw [if_neg c9] at H
      exact absurd H (by simp)
    ·rw [if_neg c8] at H
     exact absurd H (by simp)
 ·replace c5 := Bool.eq_false_iff.mpr c5
  subst c5
  rw [if_neg Ff_] at H
  obtain rfl := Option.some.inj H
  go_enter Try.func49, Try.ntmps49
  go_wp2_with (first | (refine Bv_ 3 #[.slice A0_0 l0_0.length c0_0, .slice A0_1 l0_1.length c0_1, .slice A0_2 l0_2.length c0_2] 73 ?_; intro gb260 hg w16 BK260 hb; have GW260 := Hg_ HB hg; replace HB := Hs_ HB hb; clear hb hg; obtain ⟨hcz17_0, hcz17_1, hcz17_2, hfz17_0, hfz17_1, hfz17_2⟩ := Bc3_ BK260) | (refine Gl_ (some 13) Try.func102 ((spec_l01In.calls a1 0 (wrap64 ((l0_1.length : Int) - 1)) false _ A4.out).mono ?_); rintro e w' ⟨rfl, ⟨nd, rfl⟩⟩; refine ⟨_, rfl, ?_⟩))
  go_ret
  exact ⟨Re_, Hf_ HB⟩

/-! ### impl_within: function 116 -/
def impl_within.f (a0 : Int) (a1 : Int) (a2 : Int) : Option (Bool) := if a0 ≥ a1 then (some (decide (a0 ≤ a2))) else (some false)
theorem impl_within.calls (a0 : Int) (a1 : Int) (a2 : Int) (r : Bool) (w : World) (h : impl_within.f a0 a1 a2 = some r) :
  Calls Try.prog 116 #[.int .i64 a0, .int .i64 a1, .int .i64 a2] w fun e w' => e = .returned (.bool r) ∧ Drawn0 w w' := by
 have H : (if a0 ≥ a1 then (some (decide (a0 ≤ a2))) else (some false)) = some r := h
 clear h
 by_cases c4 : a0 ≥ a1
 ·rw [if_pos c4] at H
  have c4b0 : decide (a1 ≤ a0) = true := decide_eq_true c4
  clear c4
  obtain rfl := Option.some.inj H
  go_enter Try.func116, Try.ntmps116
  go_wp2
  go_ret
  exact ⟨by first | rfl | (simp; done) | (simp [*]; done), by repeat (first | exact Drawn0.refl _ | apply Drawn0.step)⟩
 ·rw [if_neg c4] at H
  have c4b0 : decide (a1 ≤ a0) = false := decide_eq_false c4
  clear c4
  obtain rfl := Option.some.inj H
  go_enter Try.func116, Try.ntmps116
  go_wp2
  go_ret
  exact ⟨by first | rfl | (simp; done) | (simp [*]; done), by repeat (first | exact Drawn0.refl _ | apply Drawn0.step)⟩

end Go.Proofs.Ytegeahiflkjhmaa.PFnExactEntryAt
