/- The machine side of the law FnExactValueOf: for each function that it reaches, a Lean function and its contract. Written by a program of this session's over the kit's print. No condition. -/
import Derived.Test.YtmbkcbgbienjoaaCmq
import Derived.Test.YtmbkcbgbienjoaaPFnExactValueOfx0
import Derived.Test.YtmbkcbgbienjoaaPFnExactValueOfx4
import Derived.Test.YtmbkcbgbienjoaaPFnExactValueOfx5
namespace Go.Proofs.Ytmbkcbgbienjoaa.PFnExactValueOf
open Go.RowKit Go.Proofs.YtmbkcbgbienjoaaW.PrintWords Go.Proofs.YtmbkcbgbienjoaaW.PrintLast Go.Proofs.YtmbkcbgbienjoaaW.PrintMore Go.Proofs.Ytmbkcbgbienjoaa.Cmp
attribute [local go_sem] max2_int min2_int max_two min_two max_three min_three max_four min_four   -- for this text's walks alone
set_option linter.unusedVariables false
set_option maxHeartbeats 8000000
set_option maxRecDepth 100000
set_option linter.unusedSimpArgs false

/-! ### laws_eqMonitorS: function 63 -/
def laws_eqMonitorS.l0 : Nat → List (S106) → List (S106) → Int → Option (Bool)
 | 0, _, _, _ => none
 | k + 1, x0, x1, x5 => if x5 < (x0.length : Int) then (if 0 ≤ x5 then (if x5 < (x1.length : Int) then ((laws_eqMonitor.f k ((rd_T106 x0 x5).f0) ((rd_T106 x0 x5).f1) ((rd_T106 x0 x5).f2) ((rd_T106 x0 x5).f3) ((rd_T106 x1 x5).f0) ((rd_T106 x1 x5).f1) ((rd_T106 x1 x5).f2) ((rd_T106 x1 x5).f3)).bind fun t247 => (if t247 = true then (laws_eqMonitorS.l0 k x0 x1 (wrap64 (x5 + 1))) else (some false))) else (none)) else (none)) else (some true)
def laws_eqMonitorS.f (k : Nat) (l0 : List (S106)) (l1 : List (S106)) : Option (Bool) := if (l0.length : Int) = (l1.length : Int) then (laws_eqMonitorS.l0 k l0 l1 0) else (some false)
def laws_eqMonitorS.T6 : Bool × List (List Nat × List Nat) := (true, [([], []), ([], []), ([0, 1], [0, 1]), ([2], [2]), ([], []), ([], []), ([4, 5], [4, 5]), ([6], [6]), ([3, 7], [3, 7]), ([8], [8])])
def laws_eqMonitorS.B6 : List Nat := [0, 0, 3, 7, 0, 0, 48, 112, 255, 511]
theorem laws_eqMonitorS.tab6 : rtab .any (opsOf Try.f63 6) = laws_eqMonitorS.T6 := by kernel_rfl
theorem laws_eqMonitorS.bits6 : waitsOk laws_eqMonitorS.T6.2 laws_eqMonitorS.B6 = true := by kernel_rfl
theorem laws_eqMonitorS.calls (k : Nat) (A0 : Option Addr) (c0 : Nat) (l0 : List (S106)) (A1 : Option Addr) (c1 : Nat) (l1 : List (S106)) (r : Bool) (w : World) (hr0 : Kd.C k106 w A0 l0.length l0) (hc0 : l0.length ≤ c0) (hr1 : Kd.C k106 w A1 l1.length l1) (hc1 : l1.length ≤ c1) (h : laws_eqMonitorS.f k l0 l1 = some r) :
  Calls Try.prog 63 #[.slice A0 l0.length c0, .slice A1 l1.length c1] w fun e w' => e = .returned (.bool r) ∧ Below w.heap.size w w' := by
 have hu106 := Try.underlying106
 have HR0 := Aside0.mk hr0
 have HC0 := Aside0.mk hc0
 clear hr0 hc0
 have HR1 := Aside0.mk hr1
 have HC1 := Aside0.mk hc1
 clear hr1 hc1
 have HB := Aside0.mk (Below.refl w.heap.size w)
 have H : (if (l0.length : Int) = (l1.length : Int) then (laws_eqMonitorS.l0 k l0 l1 0) else (some false)) = some r := h
 clear h
 by_cases c3 : (l0.length : Int) = (l1.length : Int)
 ·rw [if_pos c3] at H
  have c3b0 := beq_iff_eq.mpr c3
  have c3b1 := bne_eq_false_iff_eq.mpr c3
  have c3b2 : (l0.length == l1.length) = true := by first | simpa using c3 | (simp at c3 ⊢; omega)
  clear c3
  have H' := Aside0.mk H
  clear H
  go_enter Try.func63, Try.ntmps63
  go_wp2
  go_loopg [5] k (fun kq v5 w' => ∃ (x5_1 : Int), v5 = .int .i64 x5_1 ∧ Aside0 (laws_eqMonitorS.l0 kq l0 l1 x5_1 = some r) ∧ Aside0 (kq ≤ k) ∧ Aside0 (Below w.heap.size w w'))
  case atStart => exact ⟨(0), Rr_, H', ⟨Nat.le_refl _⟩, ⟨Hf_ HB⟩⟩
  case round =>
   clear H'
   clear c3b0 c3b1 c3b2
   obtain ⟨x5_1, rfl, HA, HK1, HB⟩ := hrel
   cases gk with
   | zero => exact absurd HA.out (by simp [laws_eqMonitorS.l0])
   | succ k1 =>
    have H := HA.out
    clear HA
    simp only [laws_eqMonitorS.l0] at H
    by_cases c4 : x5_1 < (l0.length : Int)
    ·rw [if_pos c4] at H
     have c4b0 := decide_eq_true c4
     clear c4
     by_cases c5 : 0 ≤ x5_1
     ·rw [if_pos c5] at H
      have c5b0 := decide_eq_true c5
      clear c5
      by_cases c6 : x5_1 < (l1.length : Int)
      ·rw [if_pos c6] at H
       have c6b0 := decide_eq_true c6
       clear c6
       obtain ⟨t247, A7, H⟩ := Bo_ H
       by_cases c8 : t247 = true
       ·subst c8
        rw [if_pos rfl] at H
        have H' := Aside0.mk H
        clear H
        try go_wp2
        replace HB := Aside0.mk (below_drew1 HB.out)
        have p245 : 0 ≤ (x5_1 : Int) := of_decide_eq_true As_
        have q245 : x5_1 < (l0.length : Int) := of_decide_eq_true As_
        obtain ⟨ad245, A245_1, c245_1, A245_2, c245_2, A245_3, c245_3, e245, hx245_0, hx245_1, hx245_2, hx245_3, hl245_1, hi245_1, hl245_2, hi245_2, hl245_3, hi245_3⟩ := at_T106 HR0.out x5_1 p245 q245
        have hw245_3 := hx245_3
        have hw245_2 := hx245_2
        have hw245_1 := hx245_1
        have hw245_0 := hx245_0
        cases e245
        replace hx245_0 := Bw_ hx245_0 HB
        replace hx245_1 := Bw_ hx245_1 HB
        replace hx245_2 := Bw_ hx245_2 HB
        replace hx245_3 := Bw_ hx245_3 HB
        have HR245_1 := Aside0.mk hi245_1
        have HC245_1 := Aside0.mk hl245_1
        clear hi245_1 hl245_1
        have HR245_2 := Aside0.mk hi245_2
        have HC245_2 := Aside0.mk hl245_2
        clear hi245_2 hl245_2
        have HR245_3 := Aside0.mk hi245_3
        have HC245_3 := Aside0.mk hl245_3
        clear hi245_3 hl245_3
        replace p245 := eq_true p245
        replace q245 := eq_true q245
        have p246 : 0 ≤ (x5_1 : Int) := of_decide_eq_true As_
        have q246 : x5_1 < (l1.length : Int) := of_decide_eq_true As_
        obtain ⟨ad246, A246_1, c246_1, A246_2, c246_2, A246_3, c246_3, e246, hx246_0, hx246_1, hx246_2, hx246_3, hl246_1, hi246_1, hl246_2, hi246_2, hl246_3, hi246_3⟩ := at_T106 HR1.out x5_1 p246 q246
        have hw246_3 := hx246_3
        have hw246_2 := hx246_2
        have hw246_1 := hx246_1
        have hw246_0 := hx246_0
        cases e246
        replace hx246_0 := Bw_ hx246_0 HB
        replace hx246_1 := Bw_ hx246_1 HB
        replace hx246_2 := Bw_ hx246_2 HB
        replace hx246_3 := Bw_ hx246_3 HB
        have HR246_1 := Aside0.mk hi246_1
        have HC246_1 := Aside0.mk hl246_1
        clear hi246_1 hl246_1
        have HR246_2 := Aside0.mk hi246_2
        have HC246_2 := Aside0.mk hl246_2
        clear hi246_2 hl246_2
        have HR246_3 := Aside0.mk hi246_3
        have HC246_3 := Aside0.mk hl246_3
        clear hi246_3 hl246_3
        replace p246 := eq_true p246
        replace q246 := eq_true q246
        refine start_ (n := 10) (S := fun w' => w'.cell? (ad245.add ((x5_1).toNat * 4)) = some (.string ((rd_T106 l0 x5_1).f0)) ∧ w'.cell? ⟨(ad245.add ((x5_1).toNat * 4)).block, (ad245.add ((x5_1).toNat * 4)).off + 1, none⟩ = some (.slice A245_1 ((rd_T106 l0 x5_1).f1).length c245_1) ∧ w'.cell? ⟨(ad245.add ((x5_1).toNat * 4)).block, (ad245.add ((x5_1).toNat * 4)).off + 2, none⟩ = some (.slice A245_2 ((rd_T106 l0 x5_1).f2).length c245_2) ∧ w'.cell? ⟨(ad245.add ((x5_1).toNat * 4)).block, (ad245.add ((x5_1).toNat * 4)).off + 3, none⟩ = some (.slice A245_3 ((rd_T106 l0 x5_1).f3).length c245_3) ∧ w'.cell? (ad246.add ((x5_1).toNat * 4)) = some (.string ((rd_T106 l1 x5_1).f0)) ∧ w'.cell? ⟨(ad246.add ((x5_1).toNat * 4)).block, (ad246.add ((x5_1).toNat * 4)).off + 1, none⟩ = some (.slice A246_1 ((rd_T106 l1 x5_1).f1).length c246_1) ∧ w'.cell? ⟨(ad246.add ((x5_1).toNat * 4)).block, (ad246.add ((x5_1).toNat * 4)).off + 2, none⟩ = some (.slice A246_2 ((rd_T106 l1 x5_1).f2).length c246_2) ∧ w'.cell? ⟨(ad246.add ((x5_1).toNat * 4)).block, (ad246.add ((x5_1).toNat * 4)).off + 3, none⟩ = some (.slice A246_3 ((rd_T106 l1 x5_1).f3).length c246_3)) (ds := []) #[false, false, false, false, false, false, false, false, false, false] (by kernel_rfl) rfl rfl ⟨(Bw_ hw245_0 HB), (Bw_ hw245_1 HB), (Bw_ hw245_2 HB), (Bw_ hw245_3 HB), (Bw_ hw246_0 HB), (Bw_ hw246_1 HB), (Bw_ hw246_2 HB), (Bw_ hw246_3 HB)⟩ (fun hHeld => ?_); refine with_tabW laws_eqMonitorS.tab6 laws_eqMonitorS.bits6 (fun HT_ HW_ => ?_)
        generalize wr.drew = w9 at HB HR245_1 HR245_2 HR245_3 HR246_1 HR246_2 HR246_3 hx245_0 hx245_1 hx245_2 hx245_3 hx246_0 hx246_1 hx246_2 hx246_3 hHeld ⊢
        refine Pu_ 0 (some 17) HT_ ?_
        refine Pu_ 1 (some 18) HT_ ?_
        refine Pu_ 2 (some 19) HT_ ?_
        refine Pu_ 4 (some 21) HT_ ?_
        refine Pu_ 5 (some 22) HT_ ?_
        refine Pu_ 6 (some 23) HT_ ?_
        refine Tk_ 3 (some 20) HT_ HW_ hHeld ?_
        refine Tk_ 7 (some 24) HT_ HW_ hHeld ?_
        refine On_ 8 (some 25) HT_ (fun K hK => ?_)
        refine Gs_ Try.func116 ((laws_eqMonitor.calls k1 ((rd_T106 l0 x5_1).f0) _ _ ((rd_T106 l0 x5_1).f1) _ _ ((rd_T106 l0 x5_1).f2) _ _ ((rd_T106 l0 x5_1).f3) ((rd_T106 l1 x5_1).f0) _ _ ((rd_T106 l1 x5_1).f1) _ _ ((rd_T106 l1 x5_1).f2) _ _ ((rd_T106 l1 x5_1).f3) true _ (Sc_ HR245_1 HB) HC245_1.out (Sc_ HR245_2 HB) HC245_2.out (Sc_ HR245_3 HB) HC245_3.out (Sc_ HR246_1 HB) HC246_1.out (Sc_ HR246_2 HB) HC246_2.out (Sc_ HR246_3 HB) HC246_3.out A7.out).mono ?_)
        rintro e w10 ⟨rfl, hb⟩
        refine ⟨_, rfl, ?_⟩
        replace HB := Hs_ HB hb
        clear hb
        refine hK.out _ _ ⟨(Bw_ hw245_0 HB), (Bw_ hw245_1 HB), (Bw_ hw245_2 HB), (Bw_ hw245_3 HB), (Bw_ hw246_0 HB), (Bw_ hw246_1 HB), (Bw_ hw246_2 HB), (Bw_ hw246_3 HB)⟩ (fun hHeld => ?_)
        clear hK K
        refine No_ (some 25) ?_
        refine Pu_ 9 (some 26) HT_ ?_
        refine done_ (done_of HT_.out (by kernel_rfl)) ?_
        try go_wp2
        go_roundg k1
        case measure => have := HK1.out; omega
        case rel => exact ⟨(wrap64 (x5_1 + 1)), Rr_, H', ⟨by have := HK1.out; omega⟩, ⟨Hf_ HB⟩⟩
       ·replace c8 := Bool.eq_false_iff.mpr c8
        subst c8
        rw [if_neg Ff_] at H
        obtain rfl := Option.some.inj H
        try go_wp2
        replace HB := Aside0.mk (below_drew1 HB.out)
        have p245 : 0 ≤ (x5_1 : Int) := of_decide_eq_true As_
        have q245 : x5_1 < (l0.length : Int) := of_decide_eq_true As_
        obtain ⟨ad245, A245_1, c245_1, A245_2, c245_2, A245_3, c245_3, e245, hx245_0, hx245_1, hx245_2, hx245_3, hl245_1, hi245_1, hl245_2, hi245_2, hl245_3, hi245_3⟩ := at_T106 HR0.out x5_1 p245 q245
        have hw245_3 := hx245_3
        have hw245_2 := hx245_2
        have hw245_1 := hx245_1
        have hw245_0 := hx245_0
        cases e245
        replace hx245_0 := Bw_ hx245_0 HB
        replace hx245_1 := Bw_ hx245_1 HB
        replace hx245_2 := Bw_ hx245_2 HB
        replace hx245_3 := Bw_ hx245_3 HB
        have HR245_1 := Aside0.mk hi245_1
        have HC245_1 := Aside0.mk hl245_1
        clear hi245_1 hl245_1
        have HR245_2 := Aside0.mk hi245_2
        have HC245_2 := Aside0.mk hl245_2
        clear hi245_2 hl245_2
        have HR245_3 := Aside0.mk hi245_3
        have HC245_3 := Aside0.mk hl245_3
        clear hi245_3 hl245_3
        replace p245 := eq_true p245
        replace q245 := eq_true q245
        have p246 : 0 ≤ (x5_1 : Int) := of_decide_eq_true As_
        have q246 : x5_1 < (l1.length : Int) := of_decide_eq_true As_
        obtain ⟨ad246, A246_1, c246_1, A246_2, c246_2, A246_3, c246_3, e246, hx246_0, hx246_1, hx246_2, hx246_3, hl246_1, hi246_1, hl246_2, hi246_2, hl246_3, hi246_3⟩ := at_T106 HR1.out x5_1 p246 q246
        have hw246_3 := hx246_3
        have hw246_2 := hx246_2
        have hw246_1 := hx246_1
        have hw246_0 := hx246_0
        cases e246
        replace hx246_0 := Bw_ hx246_0 HB
        replace hx246_1 := Bw_ hx246_1 HB
        replace hx246_2 := Bw_ hx246_2 HB
        replace hx246_3 := Bw_ hx246_3 HB
        have HR246_1 := Aside0.mk hi246_1
        have HC246_1 := Aside0.mk hl246_1
        clear hi246_1 hl246_1
        have HR246_2 := Aside0.mk hi246_2
        have HC246_2 := Aside0.mk hl246_2
        clear hi246_2 hl246_2
        have HR246_3 := Aside0.mk hi246_3
        have HC246_3 := Aside0.mk hl246_3
        clear hi246_3 hl246_3
        replace p246 := eq_true p246
        replace q246 := eq_true q246
        refine start_ (n := 10) (S := fun w' => w'.cell? (ad245.add ((x5_1).toNat * 4)) = some (.string ((rd_T106 l0 x5_1).f0)) ∧ w'.cell? ⟨(ad245.add ((x5_1).toNat * 4)).block, (ad245.add ((x5_1).toNat * 4)).off + 1, none⟩ = some (.slice A245_1 ((rd_T106 l0 x5_1).f1).length c245_1) ∧ w'.cell? ⟨(ad245.add ((x5_1).toNat * 4)).block, (ad245.add ((x5_1).toNat * 4)).off + 2, none⟩ = some (.slice A245_2 ((rd_T106 l0 x5_1).f2).length c245_2) ∧ w'.cell? ⟨(ad245.add ((x5_1).toNat * 4)).block, (ad245.add ((x5_1).toNat * 4)).off + 3, none⟩ = some (.slice A245_3 ((rd_T106 l0 x5_1).f3).length c245_3) ∧ w'.cell? (ad246.add ((x5_1).toNat * 4)) = some (.string ((rd_T106 l1 x5_1).f0)) ∧ w'.cell? ⟨(ad246.add ((x5_1).toNat * 4)).block, (ad246.add ((x5_1).toNat * 4)).off + 1, none⟩ = some (.slice A246_1 ((rd_T106 l1 x5_1).f1).length c246_1) ∧ w'.cell? ⟨(ad246.add ((x5_1).toNat * 4)).block, (ad246.add ((x5_1).toNat * 4)).off + 2, none⟩ = some (.slice A246_2 ((rd_T106 l1 x5_1).f2).length c246_2) ∧ w'.cell? ⟨(ad246.add ((x5_1).toNat * 4)).block, (ad246.add ((x5_1).toNat * 4)).off + 3, none⟩ = some (.slice A246_3 ((rd_T106 l1 x5_1).f3).length c246_3)) (ds := []) #[false, false, false, false, false, false, false, false, false, false] (by kernel_rfl) rfl rfl ⟨(Bw_ hw245_0 HB), (Bw_ hw245_1 HB), (Bw_ hw245_2 HB), (Bw_ hw245_3 HB), (Bw_ hw246_0 HB), (Bw_ hw246_1 HB), (Bw_ hw246_2 HB), (Bw_ hw246_3 HB)⟩ (fun hHeld => ?_); refine with_tabW laws_eqMonitorS.tab6 laws_eqMonitorS.bits6 (fun HT_ HW_ => ?_)
        generalize wr.drew = w11 at HB HR245_1 HR245_2 HR245_3 HR246_1 HR246_2 HR246_3 hx245_0 hx245_1 hx245_2 hx245_3 hx246_0 hx246_1 hx246_2 hx246_3 hHeld ⊢
        refine Pu_ 0 (some 17) HT_ ?_
        refine Pu_ 1 (some 18) HT_ ?_
        refine Pu_ 2 (some 19) HT_ ?_
        refine Pu_ 4 (some 21) HT_ ?_
        refine Pu_ 5 (some 22) HT_ ?_
        refine Pu_ 6 (some 23) HT_ ?_
        refine Tk_ 3 (some 20) HT_ HW_ hHeld ?_
        refine Tk_ 7 (some 24) HT_ HW_ hHeld ?_
        refine On_ 8 (some 25) HT_ (fun K hK => ?_)
        refine Gs_ Try.func116 ((laws_eqMonitor.calls k1 ((rd_T106 l0 x5_1).f0) _ _ ((rd_T106 l0 x5_1).f1) _ _ ((rd_T106 l0 x5_1).f2) _ _ ((rd_T106 l0 x5_1).f3) ((rd_T106 l1 x5_1).f0) _ _ ((rd_T106 l1 x5_1).f1) _ _ ((rd_T106 l1 x5_1).f2) _ _ ((rd_T106 l1 x5_1).f3) false _ (Sc_ HR245_1 HB) HC245_1.out (Sc_ HR245_2 HB) HC245_2.out (Sc_ HR245_3 HB) HC245_3.out (Sc_ HR246_1 HB) HC246_1.out (Sc_ HR246_2 HB) HC246_2.out (Sc_ HR246_3 HB) HC246_3.out A7.out).mono ?_)
        rintro e w12 ⟨rfl, hb⟩
        refine ⟨_, rfl, ?_⟩
        replace HB := Hs_ HB hb
        clear hb
        refine hK.out _ _ ⟨(Bw_ hw245_0 HB), (Bw_ hw245_1 HB), (Bw_ hw245_2 HB), (Bw_ hw245_3 HB), (Bw_ hw246_0 HB), (Bw_ hw246_1 HB), (Bw_ hw246_2 HB), (Bw_ hw246_3 HB)⟩ (fun hHeld => ?_)
        clear hK K
        refine No_ (some 25) ?_
        refine Pu_ 9 (some 26) HT_ ?_
        refine done_ (done_of HT_.out (by kernel_rfl)) ?_
        try go_wp2
        go_ret
        exact ⟨Re_, Hf_ HB⟩
      ·rw [if_neg c6] at H
       exact absurd H (by simp)
     ·rw [if_neg c5] at H
      exact absurd H (by simp)
    ·rw [if_neg c4] at H
     have c4b0 := decide_eq_false c4
     clear c4
     obtain rfl := Option.some.inj H
     go_wp2
     go_ret
     exact ⟨Re_, Hf_ HB⟩
 ·rw [if_neg c3] at H
  have c3b0 := beq_eq_false_iff_ne.mpr c3
  have c3b1 := bne_iff_ne.mpr c3
  have c3b2 : (l0.length == l1.length) = false := by first | simpa using c3 | (simp at c3 ⊢; omega)
  obtain rfl := Option.some.inj H
  go_enter Try.func63, Try.ntmps63
  go_wp2
  go_ret
  exact ⟨Re_, Hf_ HB⟩

/-! ### laws_eqProcess: function 117 -/
def laws_eqProcess.f (k : Nat) (a0_0 : ByteArray) (l0_1 : List ByteArray) (l0_2 : List ByteArray) (a0_3 : Int) (a1_0 : ByteArray) (l1_1 : List ByteArray) (l1_2 : List ByteArray) (a1_3 : Int) : Option (Bool) := if a0_0.toList = a1_0.toList then ((laws_eqStringS.f k l0_1 l1_1).bind fun t250 => (if t250 = true then ((laws_eqStringS.f k l0_2 l1_2).bind fun t251 => (if t251 = true then (if a0_3 = a1_3 then (some true) else (some false)) else (some false))) else (some false))) else (some false)
theorem laws_eqProcess.calls (k : Nat) (a0_0 : ByteArray) (A0_1 : Option Addr) (c0_1 : Nat) (l0_1 : List ByteArray) (A0_2 : Option Addr) (c0_2 : Nat) (l0_2 : List ByteArray) (a0_3 : Int) (a1_0 : ByteArray) (A1_1 : Option Addr) (c1_1 : Nat) (l1_1 : List ByteArray) (A1_2 : Option Addr) (c1_2 : Nat) (l1_2 : List ByteArray) (a1_3 : Int) (r : Bool) (w : World) (hr0_1 : Kd.C Kd.string w A0_1 l0_1.length l0_1) (hc0_1 : l0_1.length ≤ c0_1) (hr0_2 : Kd.C Kd.string w A0_2 l0_2.length l0_2) (hc0_2 : l0_2.length ≤ c0_2) (hr1_1 : Kd.C Kd.string w A1_1 l1_1.length l1_1) (hc1_1 : l1_1.length ≤ c1_1) (hr1_2 : Kd.C Kd.string w A1_2 l1_2.length l1_2) (hc1_2 : l1_2.length ≤ c1_2) (h : laws_eqProcess.f k a0_0 l0_1 l0_2 a0_3 a1_0 l1_1 l1_2 a1_3 = some r) :
  Calls Try.prog 117 #[.agg #[.string a0_0, .slice A0_1 l0_1.length c0_1, .slice A0_2 l0_2.length c0_2, .int .i64 a0_3], .agg #[.string a1_0, .slice A1_1 l1_1.length c1_1, .slice A1_2 l1_2.length c1_2, .int .i64 a1_3]] w fun e w' => e = .returned (.bool r) ∧ Below w.heap.size w w' := by
 have hu103 := Try.underlying103
 have HR0_1 := Aside0.mk hr0_1
 have HC0_1 := Aside0.mk hc0_1
 clear hr0_1 hc0_1
 have HR0_2 := Aside0.mk hr0_2
 have HC0_2 := Aside0.mk hc0_2
 clear hr0_2 hc0_2
 have HR1_1 := Aside0.mk hr1_1
 have HC1_1 := Aside0.mk hc1_1
 clear hr1_1 hc1_1
 have HR1_2 := Aside0.mk hr1_2
 have HC1_2 := Aside0.mk hc1_2
 clear hr1_2 hc1_2
 have HB := Aside0.mk (Below.refl w.heap.size w)
 have H : (if a0_0.toList = a1_0.toList then ((laws_eqStringS.f k l0_1 l1_1).bind fun t250 => (if t250 = true then ((laws_eqStringS.f k l0_2 l1_2).bind fun t251 => (if t251 = true then (if a0_3 = a1_3 then (some true) else (some false)) else (some false))) else (some false))) else (some false)) = some r := h
 clear h
 by_cases c3 : a0_0.toList = a1_0.toList
 ·rw [if_pos c3] at H
  have c3b0 := beq_iff_eq.mpr c3
  have c3b1 := bne_eq_false_iff_eq.mpr c3
  clear c3
  obtain ⟨t250, A4, H⟩ := Bo_ H
  by_cases c5 : t250 = true
  ·subst c5
   rw [if_pos rfl] at H
   obtain ⟨t251, A6, H⟩ := Bo_ H
   by_cases c7 : t251 = true
   ·subst c7
    rw [if_pos rfl] at H
    by_cases c8 : a0_3 = a1_3
    ·rw [if_pos c8] at H
     have c8b0 := beq_iff_eq.mpr c8
     have c8b1 := bne_eq_false_iff_eq.mpr c8
     clear c8
     obtain rfl := Option.some.inj H
     go_enter Try.func117, Try.ntmps117
     go_wp2_with (first | (refine Bv_ 2 #[.string a0_0, .slice A0_1 l0_1.length c0_1, .slice A0_2 l0_2.length c0_2, .int .i64 a0_3] 103 ?_; intro gb248 hg w9 BK248 hb; have GW248 := Hg_ HB hg; replace HB := Hs_ HB hb; clear hb hg) | (refine Bv_ 3 #[.string a1_0, .slice A1_1 l1_1.length c1_1, .slice A1_2 l1_2.length c1_2, .int .i64 a1_3] 103 ?_; intro gb249 hg w10 BK249 hb; have GW249 := Hg_ HB hg; have NB248_249 := Bl_ BK248 hg; have NB249_248 := Bm_ NB248_249; replace BK248 := Bb_ BK248 hb; replace HB := Hs_ HB hb; clear hb hg; have hnb11 := NB248_249.out; have hnc11 := NB249_248.out; obtain ⟨hcz12_0, hcz12_1, hcz12_2, hcz12_3, hfz12_0, hfz12_1, hfz12_2, hfz12_3⟩ := Bc4_ BK248; obtain ⟨hcz13_0, hcz13_1, hcz13_2, hcz13_3, hfz13_0, hfz13_1, hfz13_2, hfz13_3⟩ := Bc4_ BK249) | (refine Gl_ (some 14) Try.func31 ((laws_eqStringS.calls k _ _ l0_1 _ _ l1_1 true _ (Sc_ HR0_1 HB) HC0_1.out (Sc_ HR1_1 HB) HC1_1.out A4.out).mono ?_); rintro e w' ⟨rfl, ⟨nd, rfl⟩⟩; refine ⟨_, rfl, ?_⟩) | (refine Gl_ (some 20) Try.func31 ((laws_eqStringS.calls k _ _ l0_2 _ _ l1_2 true _ (Sh_ HR0_2 HB) HC0_2.out (Sh_ HR1_2 HB) HC1_2.out A6.out).mono ?_); rintro e w' ⟨rfl, ⟨nd, rfl⟩⟩; refine ⟨_, rfl, ?_⟩))
     go_ret
     exact ⟨Re_, Hf_ HB⟩
    ·rw [if_neg c8] at H
     have c8b0 := beq_eq_false_iff_ne.mpr c8
     have c8b1 := bne_iff_ne.mpr c8
     obtain rfl := Option.some.inj H
     go_enter Try.func117, Try.ntmps117
     go_wp2_with (first | (refine Bv_ 2 #[.string a0_0, .slice A0_1 l0_1.length c0_1, .slice A0_2 l0_2.length c0_2, .int .i64 a0_3] 103 ?_; intro gb248 hg w14 BK248 hb; have GW248 := Hg_ HB hg; replace HB := Hs_ HB hb; clear hb hg) | (refine Bv_ 3 #[.string a1_0, .slice A1_1 l1_1.length c1_1, .slice A1_2 l1_2.length c1_2, .int .i64 a1_3] 103 ?_; intro gb249 hg w15 BK249 hb; have GW249 := Hg_ HB hg; have NB248_249 := Bl_ BK248 hg; have NB249_248 := Bm_ NB248_249; replace BK248 := Bb_ BK248 hb; replace HB := Hs_ HB hb; clear hb hg; have hnb16 := NB248_249.out; have hnc16 := NB249_248.out; obtain ⟨hcz17_0, hcz17_1, hcz17_2, hcz17_3, hfz17_0, hfz17_1, hfz17_2, hfz17_3⟩ := Bc4_ BK248; obtain ⟨hcz18_0, hcz18_1, hcz18_2, hcz18_3, hfz18_0, hfz18_1, hfz18_2, hfz18_3⟩ := Bc4_ BK249) | (refine Gl_ (some 14) Try.func31 ((laws_eqStringS.calls k _ _ l0_1 _ _ l1_1 true _ (Sc_ HR0_1 HB) HC0_1.out (Sc_ HR1_1 HB) HC1_1.out A4.out).mono ?_); rintro e w' ⟨rfl, ⟨nd, rfl⟩⟩; refine ⟨_, rfl, ?_⟩) | (refine Gl_ (some 20) Try.func31 ((laws_eqStringS.calls k _ _ l0_2 _ _ l1_2 true _ (Sh_ HR0_2 HB) HC0_2.out (Sh_ HR1_2 HB) HC1_2.out A6.out).mono ?_); rintro e w' ⟨rfl, ⟨nd, rfl⟩⟩; refine ⟨_, rfl, ?_⟩))
     go_ret
     exact ⟨Re_, Hf_ HB⟩
   ·replace c7 := Bool.eq_false_iff.mpr c7
    subst c7
    rw [if_neg Ff_] at H
    obtain rfl := Option.some.inj H
    go_enter Try.func117, Try.ntmps117
    go_wp2_with (first | (refine Bv_ 2 #[.string a0_0, .slice A0_1 l0_1.length c0_1, .slice A0_2 l0_2.length c0_2, .int .i64 a0_3] 103 ?_; intro gb248 hg w19 BK248 hb; have GW248 := Hg_ HB hg; replace HB := Hs_ HB hb; clear hb hg) | (refine Bv_ 3 #[.string a1_0, .slice A1_1 l1_1.length c1_1, .slice A1_2 l1_2.length c1_2, .int .i64 a1_3] 103 ?_; intro gb249 hg w20 BK249 hb; have GW249 := Hg_ HB hg; have NB248_249 := Bl_ BK248 hg; have NB249_248 := Bm_ NB248_249; replace BK248 := Bb_ BK248 hb; replace HB := Hs_ HB hb; clear hb hg; have hnb21 := NB248_249.out; have hnc21 := NB249_248.out; obtain ⟨hcz22_0, hcz22_1, hcz22_2, hcz22_3, hfz22_0, hfz22_1, hfz22_2, hfz22_3⟩ := Bc4_ BK248; obtain ⟨hcz23_0, hcz23_1, hcz23_2, hcz23_3, hfz23_0, hfz23_1, hfz23_2, hfz23_3⟩ := Bc4_ BK249) | (refine Gl_ (some 14) Try.func31 ((laws_eqStringS.calls k _ _ l0_1 _ _ l1_1 true _ (Sc_ HR0_1 HB) HC0_1.out (Sc_ HR1_1 HB) HC1_1.out A4.out).mono ?_); rintro e w' ⟨rfl, ⟨nd, rfl⟩⟩; refine ⟨_, rfl, ?_⟩) | (refine Gl_ (some 20) Try.func31 ((laws_eqStringS.calls k _ _ l0_2 _ _ l1_2 false _ (Sh_ HR0_2 HB) HC0_2.out (Sh_ HR1_2 HB) HC1_2.out A6.out).mono ?_); rintro e w' ⟨rfl, ⟨nd, rfl⟩⟩; refine ⟨_, rfl, ?_⟩))
    go_ret
    exact ⟨Re_, Hf_ HB⟩
  ·replace c5 := Bool.eq_false_iff.mpr c5
   subst c5
   rw [if_neg Ff_] at H
   obtain rfl := Option.some.inj H
   go_enter Try.func117, Try.ntmps117
   go_wp2_with (first | (refine Bv_ 2 #[.string a0_0, .slice A0_1 l0_1.length c0_1, .slice A0_2 l0_2.length c0_2, .int .i64 a0_3] 103 ?_; intro gb248 hg w24 BK248 hb; have GW248 := Hg_ HB hg; replace HB := Hs_ HB hb; clear hb hg) | (refine Bv_ 3 #[.string a1_0, .slice A1_1 l1_1.length c1_1, .slice A1_2 l1_2.length c1_2, .int .i64 a1_3] 103 ?_; intro gb249 hg w25 BK249 hb; have GW249 := Hg_ HB hg; have NB248_249 := Bl_ BK248 hg; have NB249_248 := Bm_ NB248_249; replace BK248 := Bb_ BK248 hb; replace HB := Hs_ HB hb; clear hb hg; have hnb26 := NB248_249.out; have hnc26 := NB249_248.out; obtain ⟨hcz27_0, hcz27_1, hcz27_2, hcz27_3, hfz27_0, hfz27_1, hfz27_2, hfz27_3⟩ := Bc4_ BK248; obtain ⟨hcz28_0, hcz28_1, hcz28_2, hcz28_3, hfz28_0, hfz28_1, hfz28_2, hfz28_3⟩ := Bc4_ BK249) | (refine Gl_ (some 14) Try.func31 ((laws_eqStringS.calls k _ _ l0_1 _ _ l1_1 false _ (Sc_ HR0_1 HB) HC0_1.out (Sc_ HR1_1 HB) HC1_1.out A4.out).mono ?_); rintro e w' ⟨rfl, ⟨nd, rfl⟩⟩; refine ⟨_, rfl, ?_⟩))
   go_ret
   exact ⟨Re_, Hf_ HB⟩
 ·rw [if_neg c3] at H
  have c3b0 := beq_eq_false_iff_ne.mpr c3
  have c3b1 := bne_iff_ne.mpr c3
  obtain rfl := Option.some.inj H
  go_enter Try.func117, Try.ntmps117
  go_wp2_with (first | (refine Bv_ 2 #[.string a0_0, .slice A0_1 l0_1.length c0_1, .slice A0_2 l0_2.length c0_2, .int .i64 a0_3] 103 ?_; intro gb248 hg w29 BK248 hb; have GW248 := Hg_ HB hg; replace HB := Hs_ HB hb; clear hb hg) | (refine Bv_ 3 #[.string a1_0, .slice A1_1 l1_1.length c1_1, .slice A1_2 l1_2.length c1_2, .int .i64 a1_3] 103 ?_; intro gb249 hg w30 BK249 hb; have GW249 := Hg_ HB hg; have NB248_249 := Bl_ BK248 hg; have NB249_248 := Bm_ NB248_249; replace BK248 := Bb_ BK248 hb; replace HB := Hs_ HB hb; clear hb hg; have hnb31 := NB248_249.out; have hnc31 := NB249_248.out; obtain ⟨hcz32_0, hcz32_1, hcz32_2, hcz32_3, hfz32_0, hfz32_1, hfz32_2, hfz32_3⟩ := Bc4_ BK248; obtain ⟨hcz33_0, hcz33_1, hcz33_2, hcz33_3, hfz33_0, hfz33_1, hfz33_2, hfz33_3⟩ := Bc4_ BK249))
  go_ret
  exact ⟨Re_, Hf_ HB⟩

end Go.Proofs.Ytmbkcbgbienjoaa.PFnExactValueOf
