/- The machine side of the law FnExactValueOf: for each function that it reaches, a Lean function and its contract. Written by a program of this session's over the kit's print. No condition. -/
import Derived.Test.YtmbkcbgbienjoaaCmq
import Derived.Test.YtmbkcbgbienjoaaPFnExactValueOfx0
import Derived.Test.YtmbkcbgbienjoaaPFnExactValueOfx4
namespace Go.Proofs.Ytmbkcbgbienjoaa.PFnExactValueOf
open Go.RowKit Go.Proofs.YtmbkcbgbienjoaaW.PrintWords Go.Proofs.YtmbkcbgbienjoaaW.PrintLast Go.Proofs.YtmbkcbgbienjoaaW.PrintMore Go.Proofs.Ytmbkcbgbienjoaa.Cmp
attribute [local go_sem] max2_int min2_int max_two min_two max_three min_three max_four min_four   -- for this text's walks alone
set_option linter.unusedVariables false
set_option maxHeartbeats 8000000
set_option maxRecDepth 100000
set_option linter.unusedSimpArgs false

/-! ### laws_eqEntryS: function 143 -/
def laws_eqEntryS.l0 : Nat → List (S131) → List (S131) → Int → Option (Bool)
 | 0, _, _, _ => none
 | k + 1, x0, x1, x5 => if x5 < (x0.length : Int) then (if 0 ≤ x5 then (if x5 < (x1.length : Int) then ((laws_eqEntry.f ((rd_T131 x0 x5).f0) ((rd_T131 x0 x5).f1) ((rd_T131 x0 x5).f2) ((rd_T131 x1 x5).f0) ((rd_T131 x1 x5).f1) ((rd_T131 x1 x5).f2)).bind fun t239 => (if t239 = true then (laws_eqEntryS.l0 k x0 x1 (wrap64 (x5 + 1))) else (some false))) else (none)) else (none)) else (some true)
def laws_eqEntryS.f (k : Nat) (l0 : List (S131)) (l1 : List (S131)) : Option (Bool) := if (l0.length : Int) = (l1.length : Int) then (laws_eqEntryS.l0 k l0 l1 0) else (some false)
def laws_eqEntryS.T6 : Bool × List (List Nat × List Nat) := (true, [([], []), ([], []), ([0, 1], [0, 1]), ([2], [2]), ([], []), ([], []), ([4, 5], [4, 5]), ([6], [6]), ([3, 7], [3, 7]), ([8], [8])])
def laws_eqEntryS.B6 : List Nat := [0, 0, 3, 7, 0, 0, 48, 112, 255, 511]
theorem laws_eqEntryS.tab6 : rtab .any (opsOf Try.f143 6) = laws_eqEntryS.T6 := by kernel_rfl
theorem laws_eqEntryS.bits6 : waitsOk laws_eqEntryS.T6.2 laws_eqEntryS.B6 = true := by kernel_rfl
theorem laws_eqEntryS.calls (k : Nat) (A0 : Option Addr) (c0 : Nat) (l0 : List (S131)) (A1 : Option Addr) (c1 : Nat) (l1 : List (S131)) (r : Bool) (w : World) (hr0 : Kd.C k131 w A0 l0.length l0) (hc0 : l0.length ≤ c0) (hr1 : Kd.C k131 w A1 l1.length l1) (hc1 : l1.length ≤ c1) (h : laws_eqEntryS.f k l0 l1 = some r) :
  Calls Try.prog 143 #[.slice A0 l0.length c0, .slice A1 l1.length c1] w fun e w' => e = .returned (.bool r) ∧ Below w.heap.size w w' := by
 have hu131 := Try.underlying131
 have HR0 := Aside0.mk hr0
 have HC0 := Aside0.mk hc0
 clear hr0 hc0
 have HR1 := Aside0.mk hr1
 have HC1 := Aside0.mk hc1
 clear hr1 hc1
 have HB := Aside0.mk (Below.refl w.heap.size w)
 have H : (if (l0.length : Int) = (l1.length : Int) then (laws_eqEntryS.l0 k l0 l1 0) else (some false)) = some r := h
 clear h
 by_cases c3 : (l0.length : Int) = (l1.length : Int)
 ·rw [if_pos c3] at H
  have c3b0 := beq_iff_eq.mpr c3
  have c3b1 := bne_eq_false_iff_eq.mpr c3
  have c3b2 : (l0.length == l1.length) = true := by first | simpa using c3 | (simp at c3 ⊢; omega)
  clear c3
  have H' := Aside0.mk H
  clear H
  go_enter Try.func143, Try.ntmps143
  go_wp2
  go_loopg [5] k (fun kq v5 w' => ∃ (x5_1 : Int), v5 = .int .i64 x5_1 ∧ Aside0 (laws_eqEntryS.l0 kq l0 l1 x5_1 = some r) ∧ Aside0 (kq ≤ k) ∧ Aside0 (Below w.heap.size w w'))
  case atStart => exact ⟨(0), Rr_, H', ⟨Nat.le_refl _⟩, ⟨Hf_ HB⟩⟩
  case round =>
   clear H'
   clear c3b0 c3b1 c3b2
   obtain ⟨x5_1, rfl, HA, HK1, HB⟩ := hrel
   cases gk with
   | zero => exact absurd HA.out (by simp [laws_eqEntryS.l0])
   | succ k1 =>
    have H := HA.out
    clear HA
    simp only [laws_eqEntryS.l0] at H
    by_cases c4 : x5_1 < (l0.length : Int)
    ·rw [if_pos c4] at H
     have c4b0 := decide_eq_true c4
     clear c4
     by_cases c5 : 0 ≤ x5_1
     ·rw [if_pos c5] at H
      have c5b0 := decide_eq_true c5
      clear c5
      by_cases c6 : x5_1 < (l1.length : Int)
      ·rw [if_pos c6] at H
       have c6b0 := decide_eq_true c6
       clear c6
       obtain ⟨t239, A7, H⟩ := Bo_ H
       by_cases c8 : t239 = true
       ·subst c8
        rw [if_pos rfl] at H
        have H' := Aside0.mk H
        clear H
        try go_wp2
        replace HB := Aside0.mk (below_drew1 HB.out)
        have p237 : 0 ≤ (x5_1 : Int) := of_decide_eq_true As_
        have q237 : x5_1 < (l0.length : Int) := of_decide_eq_true As_
        obtain ⟨ad237, e237, hx237_0, hx237_1, hx237_2⟩ := at_T131 HR0.out x5_1 p237 q237
        have hw237_2 := hx237_2
        have hw237_1 := hx237_1
        have hw237_0 := hx237_0
        cases e237
        replace hx237_0 := Bw_ hx237_0 HB
        replace hx237_1 := Bw_ hx237_1 HB
        replace hx237_2 := Bw_ hx237_2 HB
        replace p237 := eq_true p237
        replace q237 := eq_true q237
        have p238 : 0 ≤ (x5_1 : Int) := of_decide_eq_true As_
        have q238 : x5_1 < (l1.length : Int) := of_decide_eq_true As_
        obtain ⟨ad238, e238, hx238_0, hx238_1, hx238_2⟩ := at_T131 HR1.out x5_1 p238 q238
        have hw238_2 := hx238_2
        have hw238_1 := hx238_1
        have hw238_0 := hx238_0
        cases e238
        replace hx238_0 := Bw_ hx238_0 HB
        replace hx238_1 := Bw_ hx238_1 HB
        replace hx238_2 := Bw_ hx238_2 HB
        replace p238 := eq_true p238
        replace q238 := eq_true q238
        refine start_ (n := 10) (S := fun w' => w'.cell? (ad237.add ((x5_1).toNat * 3)) = some (.string ((rd_T131 l0 x5_1).f0)) ∧ w'.cell? ⟨(ad237.add ((x5_1).toNat * 3)).block, (ad237.add ((x5_1).toNat * 3)).off + 1, none⟩ = some (.string ((rd_T131 l0 x5_1).f1)) ∧ w'.cell? ⟨(ad237.add ((x5_1).toNat * 3)).block, (ad237.add ((x5_1).toNat * 3)).off + 2, none⟩ = some (.int .i64 ((rd_T131 l0 x5_1).f2)) ∧ w'.cell? (ad238.add ((x5_1).toNat * 3)) = some (.string ((rd_T131 l1 x5_1).f0)) ∧ w'.cell? ⟨(ad238.add ((x5_1).toNat * 3)).block, (ad238.add ((x5_1).toNat * 3)).off + 1, none⟩ = some (.string ((rd_T131 l1 x5_1).f1)) ∧ w'.cell? ⟨(ad238.add ((x5_1).toNat * 3)).block, (ad238.add ((x5_1).toNat * 3)).off + 2, none⟩ = some (.int .i64 ((rd_T131 l1 x5_1).f2))) (ds := []) #[false, false, false, false, false, false, false, false, false, false] (by kernel_rfl) rfl rfl ⟨(Bw_ hw237_0 HB), (Bw_ hw237_1 HB), (Bw_ hw237_2 HB), (Bw_ hw238_0 HB), (Bw_ hw238_1 HB), (Bw_ hw238_2 HB)⟩ (fun hHeld => ?_); refine with_tabW laws_eqEntryS.tab6 laws_eqEntryS.bits6 (fun HT_ HW_ => ?_)
        generalize wr.drew = w9 at HB hx237_0 hx237_1 hx237_2 hx238_0 hx238_1 hx238_2 hHeld ⊢
        refine Pu_ 0 (some 17) HT_ ?_
        refine Pu_ 1 (some 18) HT_ ?_
        refine Pu_ 2 (some 19) HT_ ?_
        refine Pu_ 4 (some 21) HT_ ?_
        refine Pu_ 5 (some 22) HT_ ?_
        refine Pu_ 6 (some 23) HT_ ?_
        refine Tk_ 3 (some 20) HT_ HW_ hHeld ?_
        refine Tk_ 7 (some 24) HT_ HW_ hHeld ?_
        refine On_ 8 (some 25) HT_ (fun K hK => ?_)
        refine Gs_ Try.func150 ((laws_eqEntry.calls ((rd_T131 l0 x5_1).f0) ((rd_T131 l0 x5_1).f1) ((rd_T131 l0 x5_1).f2) ((rd_T131 l1 x5_1).f0) ((rd_T131 l1 x5_1).f1) ((rd_T131 l1 x5_1).f2) true _ A7.out).mono ?_)
        rintro e w10 ⟨rfl, hb⟩
        refine ⟨_, rfl, ?_⟩
        replace HB := Hs_ HB hb
        clear hb
        refine hK.out _ _ ⟨(Bw_ hw237_0 HB), (Bw_ hw237_1 HB), (Bw_ hw237_2 HB), (Bw_ hw238_0 HB), (Bw_ hw238_1 HB), (Bw_ hw238_2 HB)⟩ (fun hHeld => ?_)
        clear hK K
        refine No_ (some 25) ?_
        refine Pu_ 9 (some 26) HT_ ?_
        refine done_ (done_of HT_.out (by kernel_rfl)) ?_
        try go_wp2
        go_roundg k1
        case measure => have := HK1.out; omega
        case rel => exact ⟨(wrap64 (x5_1 + 1)), Rr_, H', ⟨by have := HK1.out; omega⟩, ⟨Hf_ HB⟩⟩
       ·replace c8 := Bool.eq_false_iff.mpr c8
        subst c8
        rw [if_neg Ff_] at H
        obtain rfl := Option.some.inj H
        try go_wp2
        replace HB := Aside0.mk (below_drew1 HB.out)
        have p237 : 0 ≤ (x5_1 : Int) := of_decide_eq_true As_
        have q237 : x5_1 < (l0.length : Int) := of_decide_eq_true As_
        obtain ⟨ad237, e237, hx237_0, hx237_1, hx237_2⟩ := at_T131 HR0.out x5_1 p237 q237
        have hw237_2 := hx237_2
        have hw237_1 := hx237_1
        have hw237_0 := hx237_0
        cases e237
        replace hx237_0 := Bw_ hx237_0 HB
        replace hx237_1 := Bw_ hx237_1 HB
        replace hx237_2 := Bw_ hx237_2 HB
        replace p237 := eq_true p237
        replace q237 := eq_true q237
        have p238 : 0 ≤ (x5_1 : Int) := of_decide_eq_true As_
        have q238 : x5_1 < (l1.length : Int) := of_decide_eq_true As_
        obtain ⟨ad238, e238, hx238_0, hx238_1, hx238_2⟩ := at_T131 HR1.out x5_1 p238 q238
        have hw238_2 := hx238_2
        have hw238_1 := hx238_1
        have hw238_0 := hx238_0
        cases e238
        replace hx238_0 := Bw_ hx238_0 HB
        replace hx238_1 := Bw_ hx238_1 HB
        replace hx238_2 := Bw_ hx238_2 HB
        replace p238 := eq_true p238
        replace q238 := eq_true q238
        refine start_ (n := 10) (S := fun w' => w'.cell? (ad237.add ((x5_1).toNat * 3)) = some (.string ((rd_T131 l0 x5_1).f0)) ∧ w'.cell? ⟨(ad237.add ((x5_1).toNat * 3)).block, (ad237.add ((x5_1).toNat * 3)).off + 1, none⟩ = some (.string ((rd_T131 l0 x5_1).f1)) ∧ w'.cell? ⟨(ad237.add ((x5_1).toNat * 3)).block, (ad237.add ((x5_1).toNat * 3)).off + 2, none⟩ = some (.int .i64 ((rd_T131 l0 x5_1).f2)) ∧ w'.cell? (ad238.add ((x5_1).toNat * 3)) = some (.string ((rd_T131 l1 x5_1).f0)) ∧ w'.cell? ⟨(ad238.add ((x5_1).toNat * 3)).block, (ad238.add ((x5_1).toNat * 3)).off + 1, none⟩ = some (.string ((rd_T131 l1 x5_1).f1)) ∧ w'.cell? ⟨(ad238.add ((x5_1).toNat * 3)).block, (ad238.add ((x5_1).toNat * 3)).off + 2, none⟩ = some (.int .i64 ((rd_T131 l1 x5_1).f2))) (ds := []) #[false, false, false, false, false, false, false, false, false, false] (by kernel_rfl) rfl rfl ⟨(Bw_ hw237_0 HB), (Bw_ hw237_1 HB), (Bw_ hw237_2 HB), (Bw_ hw238_0 HB), (Bw_ hw238_1 HB), (Bw_ hw238_2 HB)⟩ (fun hHeld => ?_); refine with_tabW laws_eqEntryS.tab6 laws_eqEntryS.bits6 (fun HT_ HW_ => ?_)
        generalize wr.drew = w11 at HB hx237_0 hx237_1 hx237_2 hx238_0 hx238_1 hx238_2 hHeld ⊢
        refine Pu_ 0 (some 17) HT_ ?_
        refine Pu_ 1 (some 18) HT_ ?_
        refine Pu_ 2 (some 19) HT_ ?_
        refine Pu_ 4 (some 21) HT_ ?_
        refine Pu_ 5 (some 22) HT_ ?_
        refine Pu_ 6 (some 23) HT_ ?_
        refine Tk_ 3 (some 20) HT_ HW_ hHeld ?_
        refine Tk_ 7 (some 24) HT_ HW_ hHeld ?_
        refine On_ 8 (some 25) HT_ (fun K hK => ?_)
        refine Gs_ Try.func150 ((laws_eqEntry.calls ((rd_T131 l0 x5_1).f0) ((rd_T131 l0 x5_1).f1) ((rd_T131 l0 x5_1).f2) ((rd_T131 l1 x5_1).f0) ((rd_T131 l1 x5_1).f1) ((rd_T131 l1 x5_1).f2) false _ A7.out).mono ?_)
        rintro e w12 ⟨rfl, hb⟩
        refine ⟨_, rfl, ?_⟩
        replace HB := Hs_ HB hb
        clear hb
        refine hK.out _ _ ⟨(Bw_ hw237_0 HB), (Bw_ hw237_1 HB), (Bw_ hw237_2 HB), (Bw_ hw238_0 HB), (Bw_ hw238_1 HB), (Bw_ hw238_2 HB)⟩ (fun hHeld => ?_)
        clear hK K
        refine No_ (some 25) ?_
        refine Pu_ 9 (some 26) HT_ ?_
        refine done_ (done_of HT_.out (by kernel_rfl)) ?_
        try go_wp2
        go_ret
        exact ⟨Re_, Hf_ HB⟩
      ·rw [if_neg c6] at H
       exact absurd H (by simp)
     ·rw [if_neg c5] at H
      exact absurd H (by simp)
    ·rw [if_neg c4] at H
     have c4b0 := decide_eq_false c4
     clear c4
     obtain rfl := Option.some.inj H
     go_wp2
     go_ret
     exact ⟨Re_, Hf_ HB⟩
 ·rw [if_neg c3] at H
  have c3b0 := beq_eq_false_iff_ne.mpr c3
  have c3b1 := bne_iff_ne.mpr c3
  have c3b2 : (l0.length == l1.length) = false := by first | simpa using c3 | (simp at c3 ⊢; omega)
  obtain rfl := Option.some.inj H
  go_enter Try.func143, Try.ntmps143
  go_wp2
  go_ret
  exact ⟨Re_, Hf_ HB⟩

/-! ### laws_eqMonitor: function 116 -/
def laws_eqMonitor.f (k : Nat) (a0_0 : ByteArray) (l0_1 : List ByteArray) (l0_2 : List ByteArray) (l0_3 : List (S131)) (a1_0 : ByteArray) (l1_1 : List ByteArray) (l1_2 : List ByteArray) (l1_3 : List (S131)) : Option (Bool) := if a0_0.toList = a1_0.toList then ((laws_eqStringS.f k l0_1 l1_1).bind fun t242 => (if t242 = true then ((laws_eqStringS.f k l0_2 l1_2).bind fun t243 => (if t243 = true then ((laws_eqEntryS.f k l0_3 l1_3).bind fun t244 => (if t244 = true then (some true) else (some false))) else (some false))) else (some false))) else (some false)
theorem laws_eqMonitor.calls (k : Nat) (a0_0 : ByteArray) (A0_1 : Option Addr) (c0_1 : Nat) (l0_1 : List ByteArray) (A0_2 : Option Addr) (c0_2 : Nat) (l0_2 : List ByteArray) (A0_3 : Option Addr) (c0_3 : Nat) (l0_3 : List (S131)) (a1_0 : ByteArray) (A1_1 : Option Addr) (c1_1 : Nat) (l1_1 : List ByteArray) (A1_2 : Option Addr) (c1_2 : Nat) (l1_2 : List ByteArray) (A1_3 : Option Addr) (c1_3 : Nat) (l1_3 : List (S131)) (r : Bool) (w : World) (hr0_1 : Kd.C Kd.string w A0_1 l0_1.length l0_1) (hc0_1 : l0_1.length ≤ c0_1) (hr0_2 : Kd.C Kd.string w A0_2 l0_2.length l0_2) (hc0_2 : l0_2.length ≤ c0_2) (hr0_3 : Kd.C k131 w A0_3 l0_3.length l0_3) (hc0_3 : l0_3.length ≤ c0_3) (hr1_1 : Kd.C Kd.string w A1_1 l1_1.length l1_1) (hc1_1 : l1_1.length ≤ c1_1) (hr1_2 : Kd.C Kd.string w A1_2 l1_2.length l1_2) (hc1_2 : l1_2.length ≤ c1_2) (hr1_3 : Kd.C k131 w A1_3 l1_3.length l1_3) (hc1_3 : l1_3.length ≤ c1_3) (h : laws_eqMonitor.f k a0_0 l0_1 l0_2 l0_3 a1_0 l1_1 l1_2 l1_3 = some r) :
  Calls Try.prog 116 #[.agg #[.string a0_0, .slice A0_1 l0_1.length c0_1, .slice A0_2 l0_2.length c0_2, .slice A0_3 l0_3.length c0_3], .agg #[.string a1_0, .slice A1_1 l1_1.length c1_1, .slice A1_2 l1_2.length c1_2, .slice A1_3 l1_3.length c1_3]] w fun e w' => e = .returned (.bool r) ∧ Below w.heap.size w w' := by
 have hu106 := Try.underlying106
 have HR0_1 := Aside0.mk hr0_1
 have HC0_1 := Aside0.mk hc0_1
 clear hr0_1 hc0_1
 have HR0_2 := Aside0.mk hr0_2
 have HC0_2 := Aside0.mk hc0_2
 clear hr0_2 hc0_2
 have HR0_3 := Aside0.mk hr0_3
 have HC0_3 := Aside0.mk hc0_3
 clear hr0_3 hc0_3
 have HR1_1 := Aside0.mk hr1_1
 have HC1_1 := Aside0.mk hc1_1
 clear hr1_1 hc1_1
 have HR1_2 := Aside0.mk hr1_2
 have HC1_2 := Aside0.mk hc1_2
 clear hr1_2 hc1_2
 have HR1_3 := Aside0.mk hr1_3
 have HC1_3 := Aside0.mk hc1_3
 clear hr1_3 hc1_3
 have HB := Aside0.mk (Below.refl w.heap.size w)
 have H : (if a0_0.toList = a1_0.toList then ((laws_eqStringS.f k l0_1 l1_1).bind fun t242 => (if t242 = true then ((laws_eqStringS.f k l0_2 l1_2).bind fun t243 => (if t243 = true then ((laws_eqEntryS.f k l0_3 l1_3).bind fun t244 => (if t244 = true then (some true) else (some false))) else (some false))) else (some false))) else (some false)) = some r := h
 clear h
 by_cases c3 : a0_0.toList = a1_0.toList
 ·rw [if_pos c3] at H
  have c3b0 := beq_iff_eq.mpr c3
  have c3b1 := bne_eq_false_iff_eq.mpr c3
  clear c3
  obtain ⟨t242, A4, H⟩ := Bo_ H
  by_cases c5 : t242 = true
  ·subst c5
   rw [if_pos rfl] at H
   obtain ⟨t243, A6, H⟩ := Bo_ H
   by_cases c7 : t243 = true
   ·subst c7
    rw [if_pos rfl] at H
    obtain ⟨t244, A8, H⟩ := Bo_ H
    by_cases c9 : t244 = true
    ·subst c9
     rw [if_pos rfl] at H
     obtain rfl := Option.some.inj H
     go_enter Try.func116, Try.ntmps116
     go_wp2_with (first | (refine Bv_ 2 #[.string a0_0, .slice A0_1 l0_1.length c0_1, .slice A0_2 l0_2.length c0_2, .slice A0_3 l0_3.length c0_3] 106 ?_; intro gb240 hg w10 BK240 hb; have GW240 := Hg_ HB hg; replace HB := Hs_ HB hb; clear hb hg) | (refine Bv_ 3 #[.string a1_0, .slice A1_1 l1_1.length c1_1, .slice A1_2 l1_2.length c1_2, .slice A1_3 l1_3.length c1_3] 106 ?_; intro gb241 hg w11 BK241 hb; have GW241 := Hg_ HB hg; have NB240_241 := Bl_ BK240 hg; have NB241_240 := Bm_ NB240_241; replace BK240 := Bb_ BK240 hb; replace HB := Hs_ HB hb; clear hb hg; have hnb12 := NB240_241.out; have hnc12 := NB241_240.out; obtain ⟨hcz13_0, hcz13_1, hcz13_2, hcz13_3, hfz13_0, hfz13_1, hfz13_2, hfz13_3⟩ := Bc4_ BK240; obtain ⟨hcz14_0, hcz14_1, hcz14_2, hcz14_3, hfz14_0, hfz14_1, hfz14_2, hfz14_3⟩ := Bc4_ BK241) | (refine Gl_ (some 14) Try.func31 ((laws_eqStringS.calls k _ _ l0_1 _ _ l1_1 true _ (Sc_ HR0_1 HB) HC0_1.out (Sc_ HR1_1 HB) HC1_1.out A4.out).mono ?_); rintro e w' ⟨rfl, ⟨nd, rfl⟩⟩; refine ⟨_, rfl, ?_⟩) | (refine Gl_ (some 20) Try.func31 ((laws_eqStringS.calls k _ _ l0_2 _ _ l1_2 true _ (Sh_ HR0_2 HB) HC0_2.out (Sh_ HR1_2 HB) HC1_2.out A6.out).mono ?_); rintro e w' ⟨rfl, ⟨nd, rfl⟩⟩; refine ⟨_, rfl, ?_⟩) | (refine Gl_ (some 26) Try.func143 ((laws_eqEntryS.calls k _ _ l0_3 _ _ l1_3 true _ (Sh_ HR0_3 HB) HC0_3.out (Sh_ HR1_3 HB) HC1_3.out A8.out).mono ?_); rintro e w15 ⟨rfl, hb⟩; refine ⟨_, rfl, ?_⟩; replace BK240 := Bb_ BK240 hb; replace BK241 := Bb_ BK241 hb; replace HB := Hs_ HB hb; clear hb))
     go_ret
     exact ⟨Re_, Hf_ HB⟩
    ·replace c9 := Bool.eq_false_iff.mpr c9
     subst c9
     rw [if_neg Ff_] at H
     obtain rfl := Option.some.inj H
     go_enter Try.func116, Try.ntmps116
     go_wp2_with (first | (refine Bv_ 2 #[.string a0_0, .slice A0_1 l0_1.length c0_1, .slice A0_2 l0_2.length c0_2, .slice A0_3 l0_3.length c0_3] 106 ?_; intro gb240 hg w16 BK240 hb; have GW240 := Hg_ HB hg; replace HB := Hs_ HB hb; clear hb hg) | (refine Bv_ 3 #[.string a1_0, .slice A1_1 l1_1.length c1_1, .slice A1_2 l1_2.length c1_2, .slice A1_3 l1_3.length c1_3] 106 ?_; intro gb241 hg w17 BK241 hb; have GW241 := Hg_ HB hg; have NB240_241 := Bl_ BK240 hg; have NB241_240 := Bm_ NB240_241; replace BK240 := Bb_ BK240 hb; replace HB := Hs_ HB hb; clear hb hg; have hnb18 := NB240_241.out; have hnc18 := NB241_240.out; obtain ⟨hcz19_0, hcz19_1, hcz19_2, hcz19_3, hfz19_0, hfz19_1, hfz19_2, hfz19_3⟩ := Bc4_ BK240; obtain ⟨hcz20_0, hcz20_1, hcz20_2, hcz20_3, hfz20_0, hfz20_1, hfz20_2, hfz20_3⟩ := Bc4_ BK241) | (refine Gl_ (some 14) Try.func31 ((laws_eqStringS.calls k _ _ l0_1 _ _ l1_1 true _ (Sc_ HR0_1 HB) HC0_1.out (Sc_ HR1_1 HB) HC1_1.out A4.out).mono ?_); rintro e w' ⟨rfl, ⟨nd, rfl⟩⟩; refine ⟨_, rfl, ?_⟩) | (refine Gl_ (some 20) Try.func31 ((laws_eqStringS.calls k _ _ l0_2 _ _ l1_2 true _ (Sh_ HR0_2 HB) HC0_2.out (Sh_ HR1_2 HB) HC1_2.out A6.out).mono ?_); rintro e w' ⟨rfl, ⟨nd, rfl⟩⟩; refine ⟨_, rfl, ?_⟩) | (refine Gl_ (some 26) Try.func143 ((laws_eqEntryS.calls k _ _ l0_3 _ _ l1_3 false _ (Sh_ HR0_3 HB) HC0_3.out (Sh_ HR1_3 HB) HC1_3.out A8.out).mono ?_); rintro e w21 ⟨rfl, hb⟩; refine ⟨_, rfl, ?_⟩; replace BK240 := Bb_ BK240 hb; replace BK241 := Bb_ BK241 hb; replace HB := Hs_ HB hb; clear hb))
     go_ret
     exact ⟨Re_, Hf_ HB⟩
   ·replace c7 := Bool.eq_false_iff.mpr c7
    subst c7
    rw [if_neg Ff_] at H
    obtain rfl := Option.some.inj H
    go_enter Try.func116, Try.ntmps116
    go_wp2_with (first | (refine Bv_ 2 #[.string a0_0, .slice A0_1 l0_1.length c0_1, .slice A0_2 l0_2.length c0_2, .slice A0_3 l0_3.length c0_3] 106 ?_; intro gb240 hg w22 BK240 hb; have GW240 := Hg_ HB hg; replace HB := Hs_ HB hb; clear hb hg) | (refine Bv_ 3 #[.string a1_0, .slice A1_1 l1_1.length c1_1, .slice A1_2 l1_2.length c1_2, .slice A1_3 l1_3.length c1_3] 106 ?_; intro gb241 hg w23 BK241 hb; have GW241 := Hg_ HB hg; have NB240_241 := Bl_ BK240 hg; have NB241_240 := Bm_ NB240_241; replace BK240 := Bb_ BK240 hb; replace HB := Hs_ HB hb; clear hb hg; have hnb24 := NB240_241.out; have hnc24 := NB241_240.out; obtain ⟨hcz25_0, hcz25_1, hcz25_2, hcz25_3, hfz25_0, hfz25_1, hfz25_2, hfz25_3⟩ := Bc4_ BK240; obtain ⟨hcz26_0, hcz26_1, hcz26_2, hcz26_3, hfz26_0, hfz26_1, hfz26_2, hfz26_3⟩ := Bc4_ BK241) | (refine Gl_ (some 14) Try.func31 ((laws_eqStringS.calls k _ _ l0_1 _ _ l1_1 true _ (Sc_ HR0_1 HB) HC0_1.out (Sc_ HR1_1 HB) HC1_1.out A4.out).mono ?_); rintro e w' ⟨rfl, ⟨nd, rfl⟩⟩; refine ⟨_, rfl, ?_⟩) | (refine Gl_ (some 20) Try.func31 ((laws_eqStringS.calls k _ _ l0_2 _ _ l1_2 false _ (Sh_ HR0_2 HB) HC0_2.out (Sh_ HR1_2 HB) HC1_2.out A6.out).mono ?_); rintro e w' ⟨rfl, ⟨nd, rfl⟩⟩; refine ⟨_, rfl, ?_⟩))
    go_ret
    exact ⟨Re_, Hf_ HB⟩
  ·replace c5 := Bool.eq_false_iff.mpr c5
   subst c5
   rw [if_neg Ff_] at H
   obtain rfl := Option.some.inj H
   go_enter Try.func116, Try.ntmps116
   go_wp2_with (first | (refine Bv_ 2 #[.string a0_0, .slice A0_1 l0_1.length c0_1, .slice A0_2 l0_2.length c0_2, .slice A0_3 l0_3.length c0_3] 106 ?_; intro gb240 hg w27 BK240 hb; have GW240 := Hg_ HB hg; replace HB := Hs_ HB hb; clear hb hg) | (refine Bv_ 3 #[.string a1_0, .slice A1_1 l1_1.length c1_1, .slice A1_2 l1_2.length c1_2, .slice A1_3 l1_3.length c1_3] 106 ?_; intro gb241 hg w28 BK241 hb; have GW241 := Hg_ HB hg; have NB240_241 := Bl_ BK240 hg; have NB241_240 := Bm_ NB240_241; replace BK240 := Bb_ BK240 hb; replace HB := Hs_ HB hb; clear hb hg; have hnb29 := NB240_241.out; have hnc29 := NB241_240.out; obtain ⟨hcz30_0, hcz30_1, hcz30_2, hcz30_3, hfz30_0, hfz30_1, hfz30_2, hfz30_3⟩ := Bc4_ BK240; obtain ⟨hcz31_0, hcz31_1, hcz31_2, hcz31_3, hfz31_0, hfz31_1, hfz31_2, hfz31_3⟩ := Bc4_ BK241) | (refine Gl_ (some 14) Try.func31 ((laws_eqStringS.calls k _ _ l0_1 _ _ l1_1 false _ (Sc_ HR0_1 HB) HC0_1.out (Sc_ HR1_1 HB) HC1_1.out A4.out).mono ?_); rintro e w' ⟨rfl, ⟨nd, rfl⟩⟩; refine ⟨_, rfl, ?_⟩))
   go_ret
   exact ⟨Re_, Hf_ HB⟩
 ·rw [if_neg c3] at H
  have c3b0 := beq_eq_false_iff_ne.mpr c3
  have c3b1 := bne_iff_ne.mpr c3
  obtain rfl := Option.some.inj H
  go_enter Try.func116, Try.ntmps116
  go_wp2_with (first | (refine Bv_ 2 #[.string a0_0, .slice A0_1 l0_1.length c0_1, .slice A0_2 l0_2.length c0_2, .slice A0_3 l0_3.length c0_3] 106 ?_; intro gb240 hg w32 BK240 hb; have GW240 := Hg_ HB hg; replace HB := Hs_ HB hb; clear hb hg) | (refine Bv_ 3 #[.string a1_0, .slice A1_1 l1_1.length c1_1, .slice A1_2 l1_2.length c1_2, .slice A1_3 l1_3.length c1_3] 106 ?_; intro gb241 hg w33 BK241 hb; have GW241 := Hg_ HB hg; have NB240_241 := Bl_ BK240 hg; have NB241_240 := Bm_ NB240_241; replace BK240 := Bb_ BK240 hb; replace HB := Hs_ HB hb; clear hb hg; have hnb34 := NB240_241.out; have hnc34 := NB241_240.out; obtain ⟨hcz35_0, hcz35_1, hcz35_2, hcz35_3, hfz35_0, hfz35_1, hfz35_2, hfz35_3⟩ := Bc4_ BK240; obtain ⟨hcz36_0, hcz36_1, hcz36_2, hcz36_3, hfz36_0, hfz36_1, hfz36_2, hfz36_3⟩ := Bc4_ BK241))
  go_ret
  exact ⟨Re_, Hf_ HB⟩

end Go.Proofs.Ytmbkcbgbienjoaa.PFnExactValueOf
