/- The machine side of the law FnExactValueOf: for each function that it reaches, a Lean function and its contract. Written by a program of this session's over the kit's print. No condition. -/
import Derived.Test.YtmbkcbgbienjoaaCmq
import Derived.Test.YtmbkcbgbienjoaaPFnExactValueOfx0
import Derived.Test.YtmbkcbgbienjoaaPFnExactValueOfx16
import Derived.Test.YtmbkcbgbienjoaaPFnExactValueOfx18
import Derived.Test.YtmbkcbgbienjoaaPFnExactValueOfx20
namespace Go.Proofs.Ytmbkcbgbienjoaa.PFnExactValueOf
open Go.RowKit Go.Proofs.YtmbkcbgbienjoaaW.PrintWords Go.Proofs.YtmbkcbgbienjoaaW.PrintLast Go.Proofs.YtmbkcbgbienjoaaW.PrintMore Go.Proofs.Ytmbkcbgbienjoaa.Cmp
attribute [local go_sem] max2_int min2_int max_two min_two max_three min_three max_four min_four   -- for this text's walks alone
set_option linter.unusedVariables false
set_option maxHeartbeats 8000000
set_option maxRecDepth 100000
set_option linter.unusedSimpArgs false

/-! ### impl_deeps: function 84 -/
mutual
def impl_deeps.l0 : Nat → List Int → Int → Int → List (S77) → List (S106) → List (S103) → Option (List Int)
 | 0, _, _, _, _, _, _ => none
 | k + 1, x5, x14, x15, x485000, x485001, x485002 => if x15 < x14 then ((impl_NodeOk.f k x485000 x485001 x485002 x15).bind fun t488 => (if t488 = true then (impl_deeps.j1 k x5 x15 1 x14 x15 x485000 x485001 x485002) else (impl_deeps.j1 k x5 x15 11 x14 x15 x485000 x485001 x485002))) else (some x5)
def impl_deeps.j1 : Nat → List Int → Int → Int → Int → Int → List (S77) → List (S106) → List (S103) → Option (List Int)
 | 0, _, _, _, _, _, _, _, _ => none
 | k + 1, x5, x6, x7, x14, x15, x485000, x485001, x485002 => if 0 ≤ x6 then (if x6 < (x485000.length : Int) then (impl_deeps.l1 k x5 x6 x7 x14 x15 ((rd_T77 x485000 x6).f5) (((rd_T77 x485000 x6).f5).length : Int) 0 x485000 x485001 x485002) else (none)) else (none)
def impl_deeps.l1 : Nat → List Int → Int → Int → Int → Int → List Int → Int → Int → List (S77) → List (S106) → List (S103) → Option (List Int)
 | 0, _, _, _, _, _, _, _, _, _, _, _ => none
 | k + 1, x5, x6, x7, x14, x15, x27, x28, x29, x485000, x485001, x485002 => if x29 < x28 then (if 0 ≤ x29 then (if x29 < (x27.length : Int) then ((impl_within.f (rd x27 x29) 0 (wrap64 (x6 - 1))).bind fun t491 => (if t491 = true then (if 0 ≤ (rd x27 x29) then (if (rd x27 x29) < (x5.length : Int) then (if (rd x5 (rd x27 x29)) = 0 then (if 11 > 10 then (some x5) else (if 0 ≤ x6 then (if x6 < (x5.length : Int) then (impl_deeps.l0 k (x5.set (x6 : Int).toNat 11) x14 (wrap64 (x15 + 1)) x485000 x485001 x485002) else (none)) else (none))) else (impl_deeps.l1 k x5 x6 (mx x7 (wrap64 ((rd x5 (rd x27 x29)) + 1))) x14 x15 x27 x28 (wrap64 (x29 + 1)) x485000 x485001 x485002)) else (none)) else (none)) else (if 11 > 10 then (some x5) else (if 0 ≤ x6 then (if x6 < (x5.length : Int) then (impl_deeps.l0 k (x5.set (x6 : Int).toNat 11) x14 (wrap64 (x15 + 1)) x485000 x485001 x485002) else (none)) else (none))))) else (none)) else (none)) else (if x7 > 10 then (some x5) else (if 0 ≤ x6 then (if x6 < (x5.length : Int) then (impl_deeps.l0 k (x5.set (x6 : Int).toNat x7) x14 (wrap64 (x15 + 1)) x485000 x485001 x485002) else (none)) else (none)))
end
def impl_deeps.f (k : Nat) (l0_0 : List (S77)) (l0_1 : List (S106)) (l0_2 : List (S103)) (a1 : Int) : Option (List Int) := if 0 ≤ (wrap64 (a1 + 1)) then (if (wrap64 (a1 + 1) : Int).toNat ≤ 35184372088832 then ((some (List.replicate (wrap64 (a1 + 1) : Int).toNat 0 : List Int)).bind fun y485 => (impl_deeps.l0 k y485 (y485.length : Int) 0 l0_0 l0_1 l0_2)) else (none)) else (none)
theorem impl_deeps.calls (k : Nat) (A0_0 : Option Addr) (c0_0 : Nat) (l0_0 : List (S77)) (A0_1 : Option Addr) (c0_1 : Nat) (l0_1 : List (S106)) (A0_2 : Option Addr) (c0_2 : Nat) (l0_2 : List (S103)) (a1 : Int) (r : List Int) (w : World) (hr0_0 : Kd.C k77 w A0_0 l0_0.length l0_0) (hc0_0 : l0_0.length ≤ c0_0) (hr0_1 : Kd.C k106 w A0_1 l0_1.length l0_1) (hc0_1 : l0_1.length ≤ c0_1) (hr0_2 : Kd.C k103 w A0_2 l0_2.length l0_2) (hc0_2 : l0_2.length ≤ c0_2) (h : impl_deeps.f k l0_0 l0_1 l0_2 a1 = some r) :
  Calls Try.prog 84 #[.agg #[.slice A0_0 l0_0.length c0_0, .slice A0_1 l0_1.length c0_1, .slice A0_2 l0_2.length c0_2], .int .i64 a1] w fun e w' => ∃ v0_ : Value, e = .returned (v0_) ∧ Kd.R (Kd.int .i64) 3 w' w.heap.size (fun _ => True) v0_ r ∧ Below w.heap.size w w' := by
 have hu40 := Try.underlying40
 have HR0_0 := Aside0.mk hr0_0
 have HC0_0 := Aside0.mk hc0_0
 clear hr0_0 hc0_0
 have HR0_1 := Aside0.mk hr0_1
 have HC0_1 := Aside0.mk hc0_1
 clear hr0_1 hc0_1
 have HR0_2 := Aside0.mk hr0_2
 have HC0_2 := Aside0.mk hc0_2
 clear hr0_2 hc0_2
 have HB := Aside0.mk (Below.refl w.heap.size w)
 have H : (if 0 ≤ (wrap64 (a1 + 1)) then (if (wrap64 (a1 + 1) : Int).toNat ≤ 35184372088832 then ((some (List.replicate (wrap64 (a1 + 1) : Int).toNat 0 : List Int)).bind fun y485 => (impl_deeps.l0 k y485 (y485.length : Int) 0 l0_0 l0_1 l0_2)) else (none)) else (none)) = some r := h
 clear h
 obtain ⟨ji3, hji3⟩ : ∃ j_ : Int, (wrap64 (a1 + 1)) = j_ := ⟨_, rfl⟩
 replace H : (if 0 ≤ (ji3) then (if (ji3 : Int).toNat ≤ 35184372088832 then ((some (List.replicate (ji3 : Int).toNat 0 : List Int)).bind fun y485 => (impl_deeps.l0 k y485 (y485.length : Int) 0 l0_0 l0_1 l0_2)) else (none)) else (none)) = some r := by first | (rw [hji3] at H; exact H) | (simp only [hji3] at H ⊢; exact H)
 have hji3w : (IntKind.i64.wrap (a1 + 1)) = ji3 := (i64_w _).trans hji3
 by_cases c4 : 0 ≤ (ji3)
 ·rw [if_pos c4] at H
  have c4b0 := eq_true c4
  have c4b1 := decide_eq_true c4
  clear c4
  by_cases c5 : (ji3 : Int).toNat ≤ 35184372088832
  ·rw [if_pos c5] at H
   have c5b0 := eq_true c5
   have c5b1 := decide_eq_true c5
   clear c5
   obtain ⟨y485, hy485⟩ : ∃ y_ : List Int, y_ = (List.replicate (ji3 : Int).toNat 0) := ⟨_, rfl⟩
   replace H : (impl_deeps.l0 k y485 (y485.length : Int) 0 l0_0 l0_1 l0_2) = some r := by first | (rw [hy485]; with_reducible exact H) | (have H2_ := (Option.bind_some _ _).symm.trans H; rw [hy485]; with_reducible exact H2_) | (have H2_ := (Option.bind_some _ _).symm.trans H; with_reducible exact H2_) | with_reducible exact H | (rw [hy485]; exact H) | exact H
   have Ny485 := Aside0.mk hy485
   clear hy485
   have H' := Aside0.mk H
   clear H
   go_enter Try.func84, Try.ntmps84
   go_wp2_with (first | (refine Bv_ 2 #[.slice A0_0 l0_0.length c0_0, .slice A0_1 l0_1.length c0_1, .slice A0_2 l0_2.length c0_2] 40 ?_; intro gb484 hg w6 BK484 hb; have GW484 := Hg_ HB hg; replace HB := Hs_ HB hb; clear hb hg) | ((with_reducible refine gate_dst (N := 12) rfl ?_); refine Kd.R_make (Kd.int .i64) _ 3 rfl (N := 12) rfl 27 _ _ rfl ji3 rfl rfl Try.underlying27 (.int .i64 0) 8 info3 rfl (by decide) (by omega) 0 (ok := fun _ => True) (okp := fun _ => True) rfl (fun _ hk => hk) trivial (of_decide_eq_true As_) (Nat.le_trans (Nat.mul_le_mul_right _ (of_decide_eq_true As_ : ji3.toNat ≤ 35184372088832)) (by omega)) (Below.refl _ _) (Nat.le_refl _) ?_; intro v486 w7 ho8 hb hg_ hnew_; clear hg_ hnew_; (first | rw [← Ny485.out] at ho8 | (simp only [Int.reduceToNat] at ho8; rw [← Ny485.out] at ho8)); have HO487 := Aside0.mk (Kd.R_lower ho8 (below_size (Hf_ HB))); replace BK484 := Bb_ BK484 hb; replace HB := Hs_ HB hb; clear hb ho8; obtain ⟨Ao9, co9, eo9⟩ := Kd.R_slice HO487.out; subst eo9))
   go_loopg [15] k (fun kq v15 w' => ∃ (x5_1 : List Int) (x15_1 : Int), v15 = .int .i64 x15_1 ∧ Aside0 (impl_deeps.l0 kq x5_1 (y485.length : Int) x15_1 l0_0 l0_1 l0_2 = some r) ∧ Aside0 (kq ≤ k) ∧ Aside0 (Kd.R (Kd.int .i64) 3 w' w.heap.size (fun _ => True) (.slice Ao9 y485.length co9) x5_1) ∧ Aside0 (w'.heap[gb484]? = some (.cells #[(.slice A0_0 l0_0.length c0_0), (.slice A0_1 l0_1.length c0_1), (.slice A0_2 l0_2.length c0_2)] 40 (0, 0))) ∧ Aside0 (Below w.heap.size w w'))
   case atStart => exact ⟨(y485), (0), Rr_, H', ⟨Nat.le_refl _⟩, ⟨Rq_ HO487⟩, ⟨Bq_ BK484⟩, ⟨Hf_ HB⟩⟩
   case round =>
    clear H'
    clear c4b0 c4b1 c5b0 c5b1
    obtain ⟨x5_1, x15_1, rfl, HA, HK1, HO_5, BK484, HB⟩ := hrel
    have hl5_1 := (Kd.R_reads' HO_5.out).1
    rw [hl5_1] at HO_5
    (try simp only [hl5_1])
    (try simp only [hl5_1] at BK484)
    cases gk with
    | zero => exact absurd HA.out (by simp [impl_deeps.l0])
    | succ k1 =>
     have H := HA.out
     clear HA
     simp only [impl_deeps.l0] at H
     by_cases c10 : x15_1 < (y485.length : Int)
     ·rw [if_pos c10] at H
      have c10b0 := decide_eq_true c10
      have c10b1 := decide_eq_true (p := x15_1 < (x5_1.length : Int)) (by rw [← hl5_1]; exact c10)
      clear c10
      obtain ⟨t488, A11, H⟩ := Bo_ H
      have HC12 := Aside0.mk H
      clear H
      obtain ⟨hcz13_0, hcz13_1, hcz13_2, hfz13_0, hfz13_1, hfz13_2⟩ := Bc3_ BK484
      go_upto_if 21 with (first | (refine Gl_ (some 20) Try.func36 ((impl_NodeOk.calls k1 _ _ l0_0 _ _ l0_1 _ _ l0_2 x15_1 t488 _ (Sc_ HR0_0 HB) HC0_0.out (Sc_ HR0_1 HB) HC0_1.out (Sc_ HR0_2 HB) HC0_2.out A11.out).mono ?_); rintro e w14 ⟨rfl, hb⟩; refine ⟨_, rfl, ?_⟩; replace HO_5 := Rb_ HO_5 hb; replace BK484 := Bb_ BK484 hb; replace HB := Hs_ HB hb; clear hb))
      (try simp only [Act.put, List.setIfInBounds_toArray, List.set_cons_zero, List.set_cons_succ])
      go_cut [7] (fun v7 wc => ∃ (kq : Nat) (x7_11 : Int), v7 = .int .i64 x7_11 ∧ Aside0 (impl_deeps.j1 kq x5_1 x15_1 x7_11 (y485.length : Int) x15_1 l0_0 l0_1 l0_2 = some r) ∧ Aside0 (kq ≤ k1) ∧ Aside0 (Kd.R (Kd.int .i64) 3 wc w.heap.size (fun _ => True) (.slice Ao9 x5_1.length co9) x5_1) ∧ Aside0 (wc.heap[gb484]? = some (.cells #[(.slice A0_0 l0_0.length c0_0), (.slice A0_1 l0_1.length c0_1), (.slice A0_2 l0_2.length c0_2)] 40 (0, 0))) ∧ Aside0 (Below w.heap.size w wc))
      case first =>
       have H := HC12.out
       clear HC12
       by_cases c15 : t488 = true
       ·subst c15
        rw [if_pos rfl] at H
        have H' := Aside0.mk H
        clear H
        go_wp2
        go_meet
        case rel => exact ⟨_, (1), Rr_, H', ⟨by have := HK1.out; first | omega | exact Nat.le_refl _⟩, ⟨by (try simp only [hl5_1]); (with_reducible repeat (first | apply Kd.R_alloc | apply Kd.R_drewN | apply Kd.R_drew)); exact HO_5.out⟩, ⟨by (try simp only [hl5_1]); (with_reducible repeat (first | refine blk_drewN ?_ _ | refine blk_drew ?_ | refine blk_alloc ?_ _)); exact BK484.out⟩, ⟨Hf_ HB⟩⟩
       ·replace c15 := Bool.eq_false_iff.mpr c15
        subst c15
        rw [if_neg Ff_] at H
        have H' := Aside0.mk H
        clear H
        go_wp2
        go_meet
        case rel => exact ⟨_, (11), Rr_, H', ⟨by have := HK1.out; first | omega | exact Nat.le_refl _⟩, ⟨by (try simp only [hl5_1]); (with_reducible repeat (first | apply Kd.R_alloc | apply Kd.R_drewN | apply Kd.R_drew)); exact HO_5.out⟩, ⟨by (try simp only [hl5_1]); (with_reducible repeat (first | refine blk_drewN ?_ _ | refine blk_drew ?_ | refine blk_alloc ?_ _)); exact BK484.out⟩, ⟨Hf_ HB⟩⟩
      case rest =>
       clear HC12
       clear c10b0 hcz13_0 hcz13_1 hcz13_2 hfz13_0 hfz13_1 hfz13_2
       obtain ⟨kq, x7_11, rfl, HA, HJ11, HO_5, BK484, HB⟩ := hcut
       cases kq with
       | zero => exact absurd HA.out (by simp [impl_deeps.j1])
       | succ kj11 =>
        have H := HA.out
        clear HA
        simp only [impl_deeps.j1] at H
        by_cases c16 : 0 ≤ x15_1
        ·rw [if_pos c16] at H
         have c16b0 := decide_eq_true c16
         clear c16
         by_cases c17 : x15_1 < (l0_0.length : Int)
         ·rw [if_pos c17] at H
          have c17b0 := decide_eq_true c17
          clear c17
          have H' := Aside0.mk H
          clear H
          obtain ⟨hcz18_0, hcz18_1, hcz18_2, hfz18_0, hfz18_1, hfz18_2⟩ := Bc3_ BK484
          have p489 : 0 ≤ (x15_1 : Int) := of_decide_eq_true As_
          have q489 : x15_1 < (l0_0.length : Int) := of_decide_eq_true As_
          obtain ⟨ad489, A489_5, c489_5, e489, hx489_0, hx489_1, hx489_2, hx489_3, hx489_4, hx489_5, hl489_5, hi489_5⟩ := at_T77 HR0_0.out x15_1 p489 q489
          cases e489
          replace hx489_0 := Bw_ hx489_0 HB
          replace hx489_1 := Bw_ hx489_1 HB
          replace hx489_2 := Bw_ hx489_2 HB
          replace hx489_3 := Bw_ hx489_3 HB
          replace hx489_4 := Bw_ hx489_4 HB
          replace hx489_5 := Bw_ hx489_5 HB
          have HR489_5 := Aside0.mk hi489_5
          have HC489_5 := Aside0.mk hl489_5
          clear hi489_5 hl489_5
          replace p489 := eq_true p489
          replace q489 := eq_true q489
          go_wp2
          go_loopg [7, 29] kj11 (fun kq v7 v29 w' => ∃ (x7_3 : Int) (x29_3 : Int), v7 = .int .i64 x7_3 ∧ v29 = .int .i64 x29_3 ∧ Aside0 (impl_deeps.l1 kq x5_1 x15_1 x7_3 (y485.length : Int) x15_1 ((rd_T77 l0_0 x15_1).f5) (((rd_T77 l0_0 x15_1).f5).length : Int) x29_3 l0_0 l0_1 l0_2 = some r) ∧ Aside0 (kq ≤ kj11) ∧ Aside0 (Kd.R (Kd.int .i64) 3 w' w.heap.size (fun _ => True) (.slice Ao9 x5_1.length co9) x5_1) ∧ Aside0 (w'.heap[gb484]? = some (.cells #[(.slice (some ad489) l0_0.length c0_0), (.slice A0_1 l0_1.length c0_1), (.slice A0_2 l0_2.length c0_2)] 40 (0, 0))) ∧ Aside0 (Below w.heap.size w w'))
          case atStart => exact ⟨(x7_11), (0), Rr_, Rr_, H', ⟨Nat.le_refl _⟩, ⟨by (try simp only [hl5_1]); (with_reducible repeat (first | apply Kd.R_alloc | apply Kd.R_drewN | apply Kd.R_drew)); exact HO_5.out⟩, ⟨by (try simp only [hl5_1]); (with_reducible repeat (first | refine blk_drewN ?_ _ | refine blk_drew ?_ | refine blk_alloc ?_ _)); exact BK484.out⟩, ⟨Hf_ HB⟩⟩
          case round =>
           clear H'
           clear c16b0 c17b0 hcz18_0 hcz18_1 hcz18_2 hfz18_0 hfz18_1 hfz18_2 hx489_0 hx489_1 hx489_2 hx489_3 hx489_4 hx489_5 p489 q489
           obtain ⟨x7_3, x29_3, rfl, rfl, HA, HK3, HO_5, BK484, HB⟩ := hrel
           cases gk with
           | zero => exact absurd HA.out (by simp [impl_deeps.l1])
           | succ k3 =>
            have H := HA.out
            clear HA
            simp only [impl_deeps.l1] at H
            by_cases c19 : x29_3 < (((rd_T77 l0_0 x15_1).f5).length : Int)
            ·rw [if_pos c19] at H
             have c19b0 := decide_eq_true c19
             clear c19
             by_cases c20 : 0 ≤ x29_3
             ·rw [if_pos c20] at H
              have c20b0 := decide_eq_true c20
              clear c20
              by_cases c21 : x29_3 < (((rd_T77 l0_0 x15_1).f5).length : Int)
              ·rw [if_pos c21] at H
               have c21b0 := decide_eq_true c21
               clear c21
               obtain ⟨t491, A22, H⟩ := Bo_ H
               by_cases c23 : t491 = true
               ·subst c23
                rw [if_pos rfl] at H
                by_cases c24 : 0 ≤ (rd ((rd_T77 l0_0 x15_1).f5) x29_3)
                ·rw [if_pos c24] at H
                 have c24b0 := decide_eq_true c24
                 clear c24
                 by_cases c25 : (rd ((rd_T77 l0_0 x15_1).f5) x29_3) < (x5_1.length : Int)
                 ·rw [if_pos c25] at H
                  have c25b0 := decide_eq_true c25
                  clear c25
                  by_cases c26 : (rd x5_1 (rd ((rd_T77 l0_0 x15_1).f5) x29_3)) = 0
                  ·rw [if_pos c26] at H
                   have c26b0 := beq_iff_eq.mpr c26
                   have c26b1 := bne_eq_false_iff_eq.mpr c26
                   clear c26
                   by_cases c27 : 11 > 10
                   ·rw [if_pos c27] at H
                    have c27b0 : decide (10 < 11) = true := decide_eq_true c27
                    clear c27
                    obtain rfl := Option.some.inj H
                    have p490 : 0 ≤ (x29_3 : Int) := of_decide_eq_true As_
                    have q490 : x29_3 < (((rd_T77 l0_0 x15_1).f5).length : Int) := of_decide_eq_true As_
                    obtain ⟨ad490, e490, hx490_0⟩ := Kd.at_int HR489_5.out x29_3 p490 q490
                    cases e490
                    replace hx490_0 := Bw_ hx490_0 HB
                    replace p490 := eq_true p490
                    replace q490 := eq_true q490
                    go_wp2_with (first | (refine Gl_ (some 36) Try.func79 ((impl_within.calls (rd ((rd_T77 l0_0 x15_1).f5) x29_3) 0 (wrap64 (x15_1 - 1)) true _ A22.out).mono ?_); rintro e w' ⟨rfl, ⟨nd, rfl⟩⟩; refine ⟨_, rfl, ?_⟩; have p492 : 0 ≤ ((rd ((rd_T77 l0_0 x15_1).f5) x29_3) : Int) := of_decide_eq_true As_; have q492 : (rd ((rd_T77 l0_0 x15_1).f5) x29_3) < (x5_1.length : Int) := of_decide_eq_true As_; obtain ⟨ad492, e492, hx492_0⟩ := Kd.at_int (Kd.R_reads' HO_5.out).2.2 (rd ((rd_T77 l0_0 x15_1).f5) x29_3) p492 q492; cases e492; replace p492 := eq_true p492; replace q492 := eq_true q492))
                    go_ret
                    exact ⟨_, by first | rfl | (simp [errW_none, errW_some] <;> rfl) | (simp only [← hji3]; first | rfl | (simp [errW_none, errW_some] <;> rfl)) | (simp [*, errW_none, errW_some] <;> rfl), by (with_reducible repeat (first | apply Kd.R_alloc | apply Kd.R_drewN | apply Kd.R_drew)); exact HO_5.out, Hf_ HB⟩
                   ·exact absurd (by decide) c27
                  ·rw [if_neg c26] at H
                   have c26b0 := beq_eq_false_iff_ne.mpr c26
                   have c26b1 := bne_iff_ne.mpr c26
                   obtain ⟨ji33, hji33⟩ : ∃ j_ : Int, (mx x7_3 (wrap64 ((rd x5_1 (rd ((rd_T77 l0_0 x15_1).f5) x29_3)) + 1))) = j_ := ⟨_, rfl⟩
                   replace H : (impl_deeps.l1 k3 x5_1 x15_1 ji33 (y485.length : Int) x15_1 ((rd_T77 l0_0 x15_1).f5) (((rd_T77 l0_0 x15_1).f5).length : Int) (wrap64 (x29_3 + 1)) l0_0 l0_1 l0_2) = some r := by first | (rw [hji33] at H; exact H) | (simp only [hji33] at H ⊢; exact H)
                   (try rw [hji33] at A22)
                   have hji33_ : (if x7_3 < (wrap64 ((rd x5_1 (rd ((rd_T77 l0_0 x15_1).f5) x29_3)) + 1)) then (wrap64 ((rd x5_1 (rd ((rd_T77 l0_0 x15_1).f5) x29_3)) + 1)) else x7_3) = ji33 := hji33
                   have H' := Aside0.mk H
                   clear H
                   have p490 : 0 ≤ (x29_3 : Int) := of_decide_eq_true As_
                   have q490 : x29_3 < (((rd_T77 l0_0 x15_1).f5).length : Int) := of_decide_eq_true As_
                   obtain ⟨ad490, e490, hx490_0⟩ := Kd.at_int HR489_5.out x29_3 p490 q490
                   cases e490
                   replace hx490_0 := Bw_ hx490_0 HB
                   replace p490 := eq_true p490
                   replace q490 := eq_true q490
                   go_wp2_with (first | (refine Gl_ (some 36) Try.func79 ((impl_within.calls (rd ((rd_T77 l0_0 x15_1).f5) x29_3) 0 (wrap64 (x15_1 - 1)) true _ A22.out).mono ?_); rintro e w' ⟨rfl, ⟨nd, rfl⟩⟩; refine ⟨_, rfl, ?_⟩; have p492 : 0 ≤ ((rd ((rd_T77 l0_0 x15_1).f5) x29_3) : Int) := of_decide_eq_true As_; have q492 : (rd ((rd_T77 l0_0 x15_1).f5) x29_3) < (x5_1.length : Int) := of_decide_eq_true As_; obtain ⟨ad492, e492, hx492_0⟩ := Kd.at_int (Kd.R_reads' HO_5.out).2.2 (rd ((rd_T77 l0_0 x15_1).f5) x29_3) p492 q492; cases e492; replace p492 := eq_true p492; replace q492 := eq_true q492; have p494 : 0 ≤ ((rd ((rd_T77 l0_0 x15_1).f5) x29_3) : Int) := of_decide_eq_true As_; have q494 : (rd ((rd_T77 l0_0 x15_1).f5) x29_3) < (x5_1.length : Int) := of_decide_eq_true As_; obtain ⟨ad494, e494, hx494_0⟩ := Kd.at_int (Kd.R_reads' HO_5.out).2.2 (rd ((rd_T77 l0_0 x15_1).f5) x29_3) p494 q494; obtain rfl : ad492 = ad494 := (by injection e494); replace p494 := eq_true p494; replace q494 := eq_true q494))
                   go_roundg k3
                   case measure => have := HK1.out; have := HJ11.out; have := HK3.out; omega
                   case rel => exact ⟨(ji33), (wrap64 (x29_3 + 1)), (by first | rfl | (simp; done) | (simp only [← hji33] <;> (first | rfl | simp)) | (simp [*]; done)), Rr_, H', ⟨by have := HK1.out; have := HJ11.out; have := HK3.out; omega⟩, ⟨by (try simp only [hl5_1]); (with_reducible repeat (first | apply Kd.R_alloc | apply Kd.R_drewN | apply Kd.R_drew)); exact HO_5.out⟩, ⟨by (try simp only [hl5_1]); (with_reducible repeat (first | refine blk_drewN ?_ _ | refine blk_drew ?_ | refine blk_alloc ?_ _)); exact BK484.out⟩, ⟨Hf_ HB⟩⟩
                 ·rw [if_neg c25] at H
                  exact absurd H (by simp)
                ·rw [if_neg c24] at H
                 exact absurd H (by simp)
               ·replace c23 := Bool.eq_false_iff.mpr c23
                subst c23
                rw [if_neg Ff_] at H
                by_cases c34 : 11 > 10
                ·rw [if_pos c34] at H
                 have c34b0 : decide (10 < 11) = true := decide_eq_true c34
                 clear c34
                 obtain rfl := Option.some.inj H
                 have p490 : 0 ≤ (x29_3 : Int) := of_decide_eq_true As_
                 have q490 : x29_3 < (((rd_T77 l0_0 x15_1).f5).length : Int) := of_decide_eq_true As_
                 obtain ⟨ad490, e490, hx490_0⟩ := Kd.at_int HR489_5.out x29_3 p490 q490
                 cases e490
                 replace hx490_0 := Bw_ hx490_0 HB
                 replace p490 := eq_true p490
                 replace q490 := eq_true q490
                 go_wp2_with (first | (refine Gl_ (some 36) Try.func79 ((impl_within.calls (rd ((rd_T77 l0_0 x15_1).f5) x29_3) 0 (wrap64 (x15_1 - 1)) false _ A22.out).mono ?_); rintro e w' ⟨rfl, ⟨nd, rfl⟩⟩; refine ⟨_, rfl, ?_⟩))
                 go_ret
                 exact ⟨_, by first | rfl | (simp [errW_none, errW_some] <;> rfl) | (simp only [← hji3]; first | rfl | (simp [errW_none, errW_some] <;> rfl)) | (simp [*, errW_none, errW_some] <;> rfl), by (with_reducible repeat (first | apply Kd.R_alloc | apply Kd.R_drewN | apply Kd.R_drew)); exact HO_5.out, Hf_ HB⟩
                ·exact absurd (by decide) c34
              ·rw [if_neg c21] at H
               exact absurd H (by simp)
             ·rw [if_neg c20] at H
              exact absurd H (by simp)
            ·rw [if_neg c19] at H
             have c19b0 := decide_eq_false c19
             clear c19
             by_cases c40 : x7_3 > 10
             ·rw [if_pos c40] at H
              have c40b0 : decide (10 < x7_3) = true := decide_eq_true c40
              clear c40
              obtain rfl := Option.some.inj H
              go_wp2
              go_ret
              exact ⟨_, by first | rfl | (simp [errW_none, errW_some] <;> rfl) | (simp only [← hji3]; first | rfl | (simp [errW_none, errW_some] <;> rfl)) | (simp [*, errW_none, errW_some] <;> rfl), by (with_reducible repeat (first | apply Kd.R_alloc | apply Kd.R_drewN | apply Kd.R_drew)); exact HO_5.out, Hf_ HB⟩
             ·rw [if_neg c40] at H
              have c40b0 : decide (10 < x7_3) = false := decide_eq_false c40
              clear c40
              by_cases c41 : 0 ≤ x15_1
              ·rw [if_pos c41] at H
               have c41b0 := decide_eq_true c41
               clear c41
               by_cases c42 : x15_1 < (x5_1.length : Int)
               ·rw [if_pos c42] at H
                have c42b0 := decide_eq_true c42
                clear c42
                obtain ⟨y496, hy496⟩ : ∃ y_ : List Int, y_ = (x5_1.set (x15_1 : Int).toNat x7_3) := ⟨_, rfl⟩
                replace H : (impl_deeps.l0 k3 y496 (y485.length : Int) (wrap64 (x15_1 + 1)) l0_0 l0_1 l0_2) = some r := by first | (rw [hy496]; with_reducible exact H) | (have H2_ := (Option.bind_some _ _).symm.trans H; rw [hy496]; with_reducible exact H2_) | (have H2_ := (Option.bind_some _ _).symm.trans H; with_reducible exact H2_) | with_reducible exact H | (rw [hy496]; exact H) | exact H
                have Ny496 := Aside0.mk hy496
                clear hy496
                have H' := Aside0.mk H
                clear H
                have p43 : 0 ≤ (x15_1 : Int) := of_decide_eq_true As_
                have q43 : (x15_1 : Int) < ((x5_1.length : Int) : Int) := of_decide_eq_true As_
                obtain ⟨go43, co43, eo43, gb43, gl43, cl43, HG43⟩ := Kd.R_form HO_5.out (by omega)
                (first | cases eo43 | (injection eo43 with ea_ en_ ec_; (first | subst ea_ | (injection ea_ with ea_; subst ea_)); subst ec_; clear en_))
                have GB43 := Aside0.mk gb43
                have GG43 := Aside0.mk HG43
                clear gb43 gl43 HG43
                obtain ⟨hx43_0, hf43_0⟩ := Kd.R_celln 0 HO_5.out (x15_1 : Int) p43 q43
                replace p43 := eq_true p43
                replace q43 := eq_true q43
                have HP44 := Kd.R_putg HO_5.out (x15_1 : Int) x7_3
                go_wp2_with (first | ((with_reducible refine gate_store (t := 3) (p := 58) rfl ?_); refine store_event (t := 3) (p := 58) (v := ?vo_w45) (w1 := (wr.setCell ⟨go43, (x15_1 : Int).toNat, none⟩ (.int .i64 x7_3))) ?hg ?ho ?hn ?hr ?_; (case ho => rfl); (case hg => rfl); (case hn => rfl); (case hr => first | (go_simp; done) | (go_simp; rfl)); intro w45 hw; have hg : wr.grownBy w45 (some go43) := (by rw [hw]; exact HP44.2); have hp_ : Kd.R (Kd.int .i64) 3 w45 w.heap.size (fun _ => True) (.slice (some ⟨go43, 0, none⟩) x5_1.length co9) y496 := (by rw [hw, Ny496.out]; exact HP44.1); clear HP44; have n0_ := Aside0.mk (hp_); have n1_ := Aside0.mk (blk_grown (g := gb484) (o := .cells #[.slice (some ad489) l0_0.length c0_0, .slice A0_1 l0_1.length c0_1, .slice A0_2 l0_2.length c0_2] 40 (0, 0)) (Bq_ BK484) hg (Kd.R_ne HO_5.out BK484.out (by decide))); have n2_ := Aside0.mk ((by rw [hw]; exact below_set (HB.out) GB43.out : Below w.heap.size w w45)); clear HO_5; clear BK484; clear HB; have HO_5 := n0_; have BK484 := n1_; have HB := n2_; clear n0_ n1_ n2_; clear hg hw hp_))
                (try simp only [← hl5_1])
                go_roundg k3
                case measure => have := HK1.out; have := HJ11.out; have := HK3.out; omega
                case rel => exact ⟨(y496), (wrap64 (x15_1 + 1)), Rr_, H', ⟨by have := HK1.out; have := HJ11.out; have := HK3.out; omega⟩, ⟨by (try simp only [hl5_1]); (with_reducible repeat (first | apply Kd.R_alloc | apply Kd.R_drewN | apply Kd.R_drew)); exact HO_5.out⟩, ⟨by (try simp only [hl5_1]); (with_reducible repeat (first | refine blk_drewN ?_ _ | refine blk_drew ?_ | refine blk_alloc ?_ _)); exact BK484.out⟩, ⟨Hf_ HB⟩⟩
               ·rw [if_neg c42] at H
                exact absurd H (by simp)
              ·rw [if_neg c41] at H
               exact absurd H (by simp)
         ·rw [if_neg c17] at H
          exact absurd H (by simp)
        ·rw [if_neg c16] at H
         exact absurd H (by simp)
     ·rw [if_neg c10] at H
      have c10b0 := decide_eq_false c10
      have c10b1 := decide_eq_false (p := x15_1 < (x5_1.length : Int)) (by rw [← hl5_1]; exact c10)
      clear c10
      obtain rfl := Option.some.inj H
      go_wp2
      go_ret
      exact ⟨_, by first | rfl | (simp [errW_none, errW_some] <;> rfl) | (simp only [← hji3]; first | rfl | (simp [errW_none, errW_some] <;> rfl)) | (simp [*, errW_none, errW_some] <;> rfl), by (with_reducible repeat (first | apply Kd.R_alloc | apply Kd.R_drewN | apply Kd.R_drew)); exact HO_5.out, Hf_ HB⟩
  ·rw [if_neg c5] at H
   exact absurd H (by simp)
 ·rw [if_neg c4] at H
  exact absurd H (by simp)

/-! ### impl_DeepOf: function 38 -/
def impl_DeepOf.f (k : Nat) (l0_0 : List (S77)) (l0_1 : List (S106)) (l0_2 : List (S103)) (a1 : Int) : Option (Int) := (impl_isNode.f l0_0 l0_1 l0_2 a1).bind fun t498 => (if t498 = true then ((impl_deeps.f k l0_0 l0_1 l0_2 a1).bind fun t499 => (if 0 ≤ a1 then (if a1 < (t499.length : Int) then (some (rd t499 a1)) else (none)) else (none))) else (some 0))
theorem impl_DeepOf.calls (k : Nat) (A0_0 : Option Addr) (c0_0 : Nat) (l0_0 : List (S77)) (A0_1 : Option Addr) (c0_1 : Nat) (l0_1 : List (S106)) (A0_2 : Option Addr) (c0_2 : Nat) (l0_2 : List (S103)) (a1 : Int) (r : Int) (w : World) (hr0_0 : Kd.C k77 w A0_0 l0_0.length l0_0) (hc0_0 : l0_0.length ≤ c0_0) (hr0_1 : Kd.C k106 w A0_1 l0_1.length l0_1) (hc0_1 : l0_1.length ≤ c0_1) (hr0_2 : Kd.C k103 w A0_2 l0_2.length l0_2) (hc0_2 : l0_2.length ≤ c0_2) (h : impl_DeepOf.f k l0_0 l0_1 l0_2 a1 = some r) :
  Calls Try.prog 38 #[.agg #[.slice A0_0 l0_0.length c0_0, .slice A0_1 l0_1.length c0_1, .slice A0_2 l0_2.length c0_2], .int .i64 a1] w fun e w' => e = .returned (.int .i64 r) ∧ Below w.heap.size w w' := by
 have hu40 := Try.underlying40
 have HR0_0 := Aside0.mk hr0_0
 have HC0_0 := Aside0.mk hc0_0
 clear hr0_0 hc0_0
 have HR0_1 := Aside0.mk hr0_1
 have HC0_1 := Aside0.mk hc0_1
 clear hr0_1 hc0_1
 have HR0_2 := Aside0.mk hr0_2
 have HC0_2 := Aside0.mk hc0_2
 clear hr0_2 hc0_2
 have HB := Aside0.mk (Below.refl w.heap.size w)
 have H : ((impl_isNode.f l0_0 l0_1 l0_2 a1).bind fun t498 => (if t498 = true then ((impl_deeps.f k l0_0 l0_1 l0_2 a1).bind fun t499 => (if 0 ≤ a1 then (if a1 < (t499.length : Int) then (some (rd t499 a1)) else (none)) else (none))) else (some 0))) = some r := h
 clear h
 obtain ⟨t498, A3, H⟩ := Bo_ H
 by_cases c4 : t498 = true
 ·subst c4
  rw [if_pos rfl] at H
  obtain ⟨t499, A5, H⟩ := Bo_ H
  by_cases c6 : 0 ≤ a1
  ·rw [if_pos c6] at H
   have c6b0 := decide_eq_true c6
   clear c6
   by_cases c7 : a1 < (t499.length : Int)
   ·rw [if_pos c7] at H
    have c7b0 := decide_eq_true c7
    clear c7
    obtain rfl := Option.some.inj H
    go_enter Try.func38, Try.ntmps38
    go_wp2_with (first | (refine Bv_ 2 #[.slice A0_0 l0_0.length c0_0, .slice A0_1 l0_1.length c0_1, .slice A0_2 l0_2.length c0_2] 40 ?_; intro gb497 hg w8 BK497 hb; have GW497 := Hg_ HB hg; replace HB := Hs_ HB hb; clear hb hg; obtain ⟨hcz9_0, hcz9_1, hcz9_2, hfz9_0, hfz9_1, hfz9_2⟩ := Bc3_ BK497) | (refine Gl_ (some 7) Try.func78 ((impl_isNode.calls _ _ l0_0 _ _ l0_1 _ _ l0_2 a1 true _ (Sc_ HR0_0 HB) HC0_0.out (Sc_ HR0_1 HB) HC0_1.out (Sc_ HR0_2 HB) HC0_2.out A3.out).mono ?_); rintro e w10 ⟨rfl, hb⟩; refine ⟨_, rfl, ?_⟩; replace BK497 := Bb_ BK497 hb; replace HB := Hs_ HB hb; clear hb; obtain ⟨hcz11_0, hcz11_1, hcz11_2, hfz11_0, hfz11_1, hfz11_2⟩ := Bc3_ BK497) | (refine Gl_ (some 11) Try.func84 ((impl_deeps.calls k _ _ l0_0 _ _ l0_1 _ _ l0_2 a1 t499 _ (Sc_ HR0_0 HB) HC0_0.out (Sc_ HR0_1 HB) HC0_1.out (Sc_ HR0_2 HB) HC0_2.out A5.out).mono ?_); rintro e w12 ⟨v500, rfl, ho0, hb⟩; refine ⟨_, rfl, ?_⟩; have HO501 := Aside0.mk (Kd.R_lower ho0 (below_size (Hf_ HB))); replace BK497 := Bb_ BK497 hb; replace HB := Hs_ HB hb; clear hb; (try clear ho0); obtain ⟨Ao13, co13, eo13⟩ := Kd.R_slice HO501.out; subst eo13; have p502 : 0 ≤ (a1 : Int) := of_decide_eq_true As_; have q502 : a1 < (t499.length : Int) := of_decide_eq_true As_; obtain ⟨ad502, e502, hx502_0⟩ := Kd.at_int (Kd.R_reads' HO501.out).2.2 a1 p502 q502; cases e502; replace p502 := eq_true p502; replace q502 := eq_true q502))
    go_ret
    exact ⟨Re_, Hf_ HB⟩
   ·rw [if_neg c7] at H
    exact absurd H (by simp)
  ·rw [if_neg c6] at H
   exact absurd H (by simp)
 ·replace c4 := Bool.eq_false_iff.mpr c4
  subst c4
  rw [if_neg Ff_] at H
  obtain rfl := Option.some.inj H
  go_enter Try.func38, Try.ntmps38
  go_wp2_with (first | (refine Bv_ 2 #[.slice A0_0 l0_0.length c0_0, .slice A0_1 l0_1.length c0_1, .slice A0_2 l0_2.length c0_2] 40 ?_; intro gb497 hg w14 BK497 hb; have GW497 := Hg_ HB hg; replace HB := Hs_ HB hb; clear hb hg; obtain ⟨hcz15_0, hcz15_1, hcz15_2, hfz15_0, hfz15_1, hfz15_2⟩ := Bc3_ BK497) | (refine Gl_ (some 7) Try.func78 ((impl_isNode.calls _ _ l0_0 _ _ l0_1 _ _ l0_2 a1 false _ (Sc_ HR0_0 HB) HC0_0.out (Sc_ HR0_1 HB) HC0_1.out (Sc_ HR0_2 HB) HC0_2.out A3.out).mono ?_); rintro e w16 ⟨rfl, hb⟩; refine ⟨_, rfl, ?_⟩; replace BK497 := Bb_ BK497 hb; replace HB := Hs_ HB hb; clear hb))
  go_ret
  exact ⟨Re_, Hf_ HB⟩

/-! ### impl_ValOk: function 103 -/
def impl_ValOk.f (a0 : Int) : Option (Bool) := (impl_within.f a0 (-1000000) 1000000).bind fun t503 => (some t503)
theorem impl_ValOk.calls (a0 : Int) (r : Bool) (w : World) (h : impl_ValOk.f a0 = some r) :
  Calls Try.prog 103 #[.int .i64 a0] w fun e w' => e = .returned (.bool r) ∧ Drawn0 w w' := by
 have H : ((impl_within.f a0 (-1000000) 1000000).bind fun t503 => (some t503)) = some r := h
 clear h
 obtain ⟨t503, A2, H⟩ := Bo_ H
 obtain rfl := Option.some.inj H
 go_enter Try.func103, Try.ntmps103
 go_wp2_with (first | (refine Gl_ (some 4) Try.func79 ((impl_within.calls a0 (-1000000) 1000000 t503 _ A2.out).mono ?_); rintro e w' ⟨rfl, ⟨nd, rfl⟩⟩; refine ⟨_, rfl, ?_⟩))
 go_ret
 exact ⟨by first | rfl | (simp; done) | (simp [*]; done), by repeat (first | exact Drawn0.refl _ | apply Drawn0.step)⟩

/-! ### impl_valAt: function 139 -/
def impl_valAt.f (k : Nat) (l0_0 : List ByteArray) (l0_1 : List Int) (a1 : ByteArray) : Option (Int) := (slices_Index_string_string.f k l0_0 a1).bind fun t505 => (if t505 ≥ (l0_1.length : Int) then (some (-1)) else (some t505))
theorem impl_valAt.calls (k : Nat) (A0_0 : Option Addr) (c0_0 : Nat) (l0_0 : List ByteArray) (A0_1 : Option Addr) (c0_1 : Nat) (l0_1 : List Int) (a1 : ByteArray) (r : Int) (w : World) (hr0_0 : Kd.C Kd.string w A0_0 l0_0.length l0_0) (hc0_0 : l0_0.length ≤ c0_0) (hr0_1 : Kd.C (Kd.int .i64) w A0_1 l0_1.length l0_1) (hc0_1 : l0_1.length ≤ c0_1) (h : impl_valAt.f k l0_0 l0_1 a1 = some r) :
  Calls Try.prog 139 #[.agg #[.slice A0_0 l0_0.length c0_0, .slice A0_1 l0_1.length c0_1], .string a1] w fun e w' => e = .returned (.int .i64 r) ∧ Below w.heap.size w w' := by
 have hu42 := Try.underlying42
 have HR0_0 := Aside0.mk hr0_0
 have HC0_0 := Aside0.mk hc0_0
 clear hr0_0 hc0_0
 have HR0_1 := Aside0.mk hr0_1
 have HC0_1 := Aside0.mk hc0_1
 clear hr0_1 hc0_1
 have HB := Aside0.mk (Below.refl w.heap.size w)
 have H : ((slices_Index_string_string.f k l0_0 a1).bind fun t505 => (if t505 ≥ (l0_1.length : Int) then (some (-1)) else (some t505))) = some r := h
 clear h
 obtain ⟨t505, A3, H⟩ := Bo_ H
 by_cases c4 : t505 ≥ (l0_1.length : Int)
 ·rw [if_pos c4] at H
  have c4b0 : decide ((l0_1.length : Int) ≤ t505) = true := decide_eq_true c4
  clear c4
  obtain rfl := Option.some.inj H
  go_enter Try.func139, Try.ntmps139
  go_wp2_with (first | (refine Bv_ 2 #[.slice A0_0 l0_0.length c0_0, .slice A0_1 l0_1.length c0_1] 42 ?_; intro gb504 hg w5 BK504 hb; have GW504 := Hg_ HB hg; replace HB := Hs_ HB hb; clear hb hg; obtain ⟨hcz6_0, hcz6_1, hfz6_0, hfz6_1⟩ := Bc2_ BK504) | (refine Gl_ (some 9) Try.func144 ((slices_Index_string_string.calls k _ _ l0_0 a1 t505 _ (Sc_ HR0_0 HB) HC0_0.out A3.out).mono ?_); rintro e w' ⟨rfl, ⟨nd, rfl⟩⟩; refine ⟨_, rfl, ?_⟩))
  go_ret
  exact ⟨Re_, Hf_ HB⟩
 ·rw [if_neg c4] at H
  have c4b0 : decide ((l0_1.length : Int) ≤ t505) = false := decide_eq_false c4
  clear c4
  obtain rfl := Option.some.inj H
  go_enter Try.func139, Try.ntmps139
  go_wp2_with (first | (refine Bv_ 2 #[.slice A0_0 l0_0.length c0_0, .slice A0_1 l0_1.length c0_1] 42 ?_; intro gb504 hg w7 BK504 hb; have GW504 := Hg_ HB hg; replace HB := Hs_ HB hb; clear hb hg; obtain ⟨hcz8_0, hcz8_1, hfz8_0, hfz8_1⟩ := Bc2_ BK504) | (refine Gl_ (some 9) Try.func144 ((slices_Index_string_string.calls k _ _ l0_0 a1 t505 _ (Sc_ HR0_0 HB) HC0_0.out A3.out).mono ?_); rintro e w' ⟨rfl, ⟨nd, rfl⟩⟩; refine ⟨_, rfl, ?_⟩))
  go_ret
  exact ⟨Re_, Hf_ HB⟩

/-! ### impl_GetIn: function 104 -/
def impl_GetIn.f (k : Nat) (l0_0 : List ByteArray) (l0_1 : List Int) (a1 : ByteArray) : Option (Int) := (impl_valAt.f k l0_0 l0_1 a1).bind fun t507 => (if t507 ≥ 0 then (if 0 ≤ t507 then (if t507 < (l0_1.length : Int) then (some (rd l0_1 t507)) else (none)) else (none)) else (some 0))
theorem impl_GetIn.calls (k : Nat) (A0_0 : Option Addr) (c0_0 : Nat) (l0_0 : List ByteArray) (A0_1 : Option Addr) (c0_1 : Nat) (l0_1 : List Int) (a1 : ByteArray) (r : Int) (w : World) (hr0_0 : Kd.C Kd.string w A0_0 l0_0.length l0_0) (hc0_0 : l0_0.length ≤ c0_0) (hr0_1 : Kd.C (Kd.int .i64) w A0_1 l0_1.length l0_1) (hc0_1 : l0_1.length ≤ c0_1) (h : impl_GetIn.f k l0_0 l0_1 a1 = some r) :
  Calls Try.prog 104 #[.agg #[.slice A0_0 l0_0.length c0_0, .slice A0_1 l0_1.length c0_1], .string a1] w fun e w' => e = .returned (.int .i64 r) ∧ Below w.heap.size w w' := by
 have hu42 := Try.underlying42
 have HR0_0 := Aside0.mk hr0_0
 have HC0_0 := Aside0.mk hc0_0
 clear hr0_0 hc0_0
 have HR0_1 := Aside0.mk hr0_1
 have HC0_1 := Aside0.mk hc0_1
 clear hr0_1 hc0_1
 have HB := Aside0.mk (Below.refl w.heap.size w)
 have H : ((impl_valAt.f k l0_0 l0_1 a1).bind fun t507 => (if t507 ≥ 0 then (if 0 ≤ t507 then (if t507 < (l0_1.length : Int) then (some (rd l0_1 t507)) else (none)) else (none)) else (some 0))) = some r := h
 clear h
 obtain ⟨t507, A3, H⟩ := Bo_ H
 by_cases c4 : t507 ≥ 0
 ·rw [if_pos c4] at H
  have c4b0 : decide (0 ≤ t507) = true := decide_eq_true c4
  clear c4
  by_cases c5 : 0 ≤ t507
  ·rw [if_pos c5] at H
   have c5b0 := decide_eq_true c5
   clear c5
   by_cases c6 : t507 < (l0_1.length : Int)
   ·rw [if_pos c6] at H
    have c6b0 := decide_eq_true c6
    clear c6
    obtain rfl := Option.some.inj H
    go_enter Try.func104, Try.ntmps104
    go_wp2_with (first | (refine Bv_ 2 #[.slice A0_0 l0_0.length c0_0, .slice A0_1 l0_1.length c0_1] 42 ?_; intro gb506 hg w7 BK506 hb; have GW506 := Hg_ HB hg; replace HB := Hs_ HB hb; clear hb hg; obtain ⟨hcz8_0, hcz8_1, hfz8_0, hfz8_1⟩ := Bc2_ BK506) | (refine Gl_ (some 8) Try.func139 ((impl_valAt.calls k _ _ l0_0 _ _ l0_1 a1 t507 _ (Sc_ HR0_0 HB) HC0_0.out (Sc_ HR0_1 HB) HC0_1.out A3.out).mono ?_); rintro e w9 ⟨rfl, hb⟩; refine ⟨_, rfl, ?_⟩; replace BK506 := Bb_ BK506 hb; replace HB := Hs_ HB hb; clear hb; obtain ⟨hcz10_0, hcz10_1, hfz10_0, hfz10_1⟩ := Bc2_ BK506; have p508 : 0 ≤ (t507 : Int) := of_decide_eq_true As_; have q508 : t507 < (l0_1.length : Int) := of_decide_eq_true As_; obtain ⟨ad508, e508, hx508_0⟩ := Kd.at_int HR0_1.out t507 p508 q508; cases e508; replace hx508_0 := Bw_ hx508_0 HB; replace p508 := eq_true p508; replace q508 := eq_true q508))
    go_ret
    exact ⟨Re_, Hf_ HB⟩
   ·rw [if_neg c6] at H
    exact absurd H (by simp)
  ·rw [if_neg c5] at H
   exact absurd H (by simp)
 ·rw [if_neg c4] at H
  have c4b0 : decide (0 ≤ t507) = false := decide_eq_false c4
  clear c4
  obtain rfl := Option.some.inj H
  go_enter Try.func104, Try.ntmps104
  go_wp2_with (first | (refine Bv_ 2 #[.slice A0_0 l0_0.length c0_0, .slice A0_1 l0_1.length c0_1] 42 ?_; intro gb506 hg w11 BK506 hb; have GW506 := Hg_ HB hg; replace HB := Hs_ HB hb; clear hb hg; obtain ⟨hcz12_0, hcz12_1, hfz12_0, hfz12_1⟩ := Bc2_ BK506) | (refine Gl_ (some 8) Try.func139 ((impl_valAt.calls k _ _ l0_0 _ _ l0_1 a1 t507 _ (Sc_ HR0_0 HB) HC0_0.out (Sc_ HR0_1 HB) HC0_1.out A3.out).mono ?_); rintro e w13 ⟨rfl, hb⟩; refine ⟨_, rfl, ?_⟩; replace BK506 := Bb_ BK506 hb; replace HB := Hs_ HB hb; clear hb))
  go_ret
  exact ⟨Re_, Hf_ HB⟩

/-! ### impl_kidAt: function 105 -/
def impl_kidAt.f (l0_0 : List (S77)) (l0_1 : List (S106)) (l0_2 : List (S103)) (a1 : Int) (a2 : Int) : Option (Int) := (impl_isNode.f l0_0 l0_1 l0_2 a1).bind fun t510 => (if t510 = true then (if 0 ≤ a1 then (if a1 < (l0_0.length : Int) then (if a2 ≥ (((rd_T77 l0_0 a1).f5).length : Int) then (some (-1)) else (if 0 ≤ a2 then (if a2 < (((rd_T77 l0_0 a1).f5).length : Int) then (some (rd ((rd_T77 l0_0 a1).f5) a2)) else (none)) else (none))) else (none)) else (none)) else (some (-1)))
theorem impl_kidAt.calls (A0_0 : Option Addr) (c0_0 : Nat) (l0_0 : List (S77)) (A0_1 : Option Addr) (c0_1 : Nat) (l0_1 : List (S106)) (A0_2 : Option Addr) (c0_2 : Nat) (l0_2 : List (S103)) (a1 : Int) (a2 : Int) (r : Int) (w : World) (hr0_0 : Kd.C k77 w A0_0 l0_0.length l0_0) (hc0_0 : l0_0.length ≤ c0_0) (hr0_1 : Kd.C k106 w A0_1 l0_1.length l0_1) (hc0_1 : l0_1.length ≤ c0_1) (hr0_2 : Kd.C k103 w A0_2 l0_2.length l0_2) (hc0_2 : l0_2.length ≤ c0_2) (h : impl_kidAt.f l0_0 l0_1 l0_2 a1 a2 = some r) :
  Calls Try.prog 105 #[.agg #[.slice A0_0 l0_0.length c0_0, .slice A0_1 l0_1.length c0_1, .slice A0_2 l0_2.length c0_2], .int .i64 a1, .int .i64 a2] w fun e w' => e = .returned (.int .i64 r) ∧ Below w.heap.size w w' := by
 have hu40 := Try.underlying40
 have HR0_0 := Aside0.mk hr0_0
 have HC0_0 := Aside0.mk hc0_0
 clear hr0_0 hc0_0
 have HR0_1 := Aside0.mk hr0_1
 have HC0_1 := Aside0.mk hc0_1
 clear hr0_1 hc0_1
 have HR0_2 := Aside0.mk hr0_2
 have HC0_2 := Aside0.mk hc0_2
 clear hr0_2 hc0_2
 have HB := Aside0.mk (Below.refl w.heap.size w)
 have H : ((impl_isNode.f l0_0 l0_1 l0_2 a1).bind fun t510 => (if t510 = true then (if 0 ≤ a1 then (if a1 < (l0_0.length : Int) then (if a2 ≥ (((rd_T77 l0_0 a1).f5).length : Int) then (some (-1)) else (if 0 ≤ a2 then (if a2 < (((rd_T77 l0_0 a1).f5).length : Int) then (some (rd ((rd_T77 l0_0 a1).f5) a2)) else (none)) else (none))) else (none)) else (none)) else (some (-1)))) = some r := h
 clear h
 obtain ⟨t510, A4, H⟩ := Bo_ H
 by_cases c5 : t510 = true
 ·subst c5
  rw [if_pos rfl] at H
  by_cases c6 : 0 ≤ a1
  ·rw [if_pos c6] at H
   have c6b0 := decide_eq_true c6
   clear c6
   by_cases c7 : a1 < (l0_0.length : Int)
   ·rw [if_pos c7] at H
    have c7b0 := decide_eq_true c7
    clear c7
    by_cases c8 : a2 ≥ (((rd_T77 l0_0 a1).f5).length : Int)
    ·rw [if_pos c8] at H
     have c8b0 : decide ((((rd_T77 l0_0 a1).f5).length : Int) ≤ a2) = true := decide_eq_true c8
     clear c8
     obtain rfl := Option.some.inj H
     go_enter Try.func105, Try.ntmps105
     go_wp2_with (first | ((with_reducible refine gate_dst (N := 3) rfl ?_); (try (refine gate_guard (by rfl) ?_; dsimp only)); refine box_event ?hg (N := 3) ?hd (cs := #[.slice A0_0 l0_0.length c0_0, .slice A0_1 l0_1.length c0_1, .slice A0_2 l0_2.length c0_2]) (t := 40) ?hr ?_; (case hd => rfl); (case hg => rfl); (case hr => first | (go_simp; done) | (go_simp; rfl)); intro gb509 hg w9 hbox hb; have BK509 := Aside0.mk (hbox); have GW509 := Hg_ HB hg; replace HB := Hs_ HB hb; clear hb hg; obtain ⟨hcz10_0, hcz10_1, hcz10_2, hfz10_0, hfz10_1, hfz10_2⟩ := Bc3_ BK509) | (refine Gl_ (some 9) Try.func78 ((impl_isNode.calls _ _ l0_0 _ _ l0_1 _ _ l0_2 a1 true _ (Sc_ HR0_0 HB) HC0_0.out (Sc_ HR0_1 HB) HC0_1.out (Sc_ HR0_2 HB) HC0_2.out A4.out).mono ?_); rintro e w11 ⟨rfl, hb⟩; refine ⟨_, rfl, ?_⟩; replace BK509 := Bb_ BK509 hb; replace HB := Hs_ HB hb; clear hb; obtain ⟨hcz12_0, hcz12_1, hcz12_2, hfz12_0, hfz12_1, hfz12_2⟩ := Bc3_ BK509; have p511 : 0 ≤ (a1 : Int) := of_decide_eq_true As_; have q511 : a1 < (l0_0.length : Int) := of_decide_eq_true As_; obtain ⟨ad511, A511_5, c511_5, e511, hx511_0, hx511_1, hx511_2, hx511_3, hx511_4, hx511_5, hl511_5, hi511_5⟩ := at_T77 HR0_0.out a1 p511 q511; cases e511; replace hx511_0 := Bw_ hx511_0 HB; replace hx511_1 := Bw_ hx511_1 HB; replace hx511_2 := Bw_ hx511_2 HB; replace hx511_3 := Bw_ hx511_3 HB; replace hx511_4 := Bw_ hx511_4 HB; replace hx511_5 := Bw_ hx511_5 HB; have HR511_5 := Aside0.mk hi511_5; have HC511_5 := Aside0.mk hl511_5; clear hi511_5 hl511_5; replace p511 := eq_true p511; replace q511 := eq_true q511))
     go_ret
     exact ⟨Re_, Hf_ HB⟩
    ·rw [if_neg c8] at H
     have c8b0 : decide ((((rd_T77 l0_0 a1).f5).length : Int) ≤ a2) = false := decide_eq_false c8
     clear c8
     by_cases c13 : 0 ≤ a2
     ·rw [if_pos c13] at H
      have c13b0 := decide_eq_true c13
      clear c13
      by_cases c14 : a2 < (((rd_T77 l0_0 a1).f5).length : Int)
      ·rw [if_pos c14] at H
       have c14b0 := decide_eq_true c14
       clear c14
       obtain rfl := Option.some.inj H
       go_enter Try.func105, Try.ntmps105
       go_wp2_with (first | ((with_reducible refine gate_dst (N := 3) rfl ?_); (try (refine gate_guard (by rfl) ?_; dsimp only)); refine box_event ?hg (N := 3) ?hd (cs := #[.slice A0_0 l0_0.length c0_0, .slice A0_1 l0_1.length c0_1, .slice A0_2 l0_2.length c0_2]) (t := 40) ?hr ?_; (case hd => rfl); (case hg => rfl); (case hr => first | (go_simp; done) | (go_simp; rfl)); intro gb509 hg w15 hbox hb; have BK509 := Aside0.mk (hbox); have GW509 := Hg_ HB hg; replace HB := Hs_ HB hb; clear hb hg; obtain ⟨hcz16_0, hcz16_1, hcz16_2, hfz16_0, hfz16_1, hfz16_2⟩ := Bc3_ BK509) | (refine Gl_ (some 9) Try.func78 ((impl_isNode.calls _ _ l0_0 _ _ l0_1 _ _ l0_2 a1 true _ (Sc_ HR0_0 HB) HC0_0.out (Sc_ HR0_1 HB) HC0_1.out (Sc_ HR0_2 HB) HC0_2.out A4.out).mono ?_); rintro e w17 ⟨rfl, hb⟩; refine ⟨_, rfl, ?_⟩; replace BK509 := Bb_ BK509 hb; replace HB := Hs_ HB hb; clear hb; obtain ⟨hcz18_0, hcz18_1, hcz18_2, hfz18_0, hfz18_1, hfz18_2⟩ := Bc3_ BK509; have p511 : 0 ≤ (a1 : Int) := of_decide_eq_true As_; have q511 : a1 < (l0_0.length : Int) := of_decide_eq_true As_; obtain ⟨ad511, A511_5, c511_5, e511, hx511_0, hx511_1, hx511_2, hx511_3, hx511_4, hx511_5, hl511_5, hi511_5⟩ := at_T77 HR0_0.out a1 p511 q511; cases e511; replace hx511_0 := Bw_ hx511_0 HB; replace hx511_1 := Bw_ hx511_1 HB; replace hx511_2 := Bw_ hx511_2 HB; replace hx511_3 := Bw_ hx511_3 HB; replace hx511_4 := Bw_ hx511_4 HB; replace hx511_5 := Bw_ hx511_5 HB; have HR511_5 := Aside0.mk hi511_5; have HC511_5 := Aside0.mk hl511_5; clear hi511_5 hl511_5; replace p511 := eq_true p511; replace q511 := eq_true q511; have p512 : 0 ≤ (a1 : Int) := of_decide_eq_true As_; have q512 : a1 < (l0_0.length : Int) := of_decide_eq_true As_; obtain ⟨ad512, A512_5, c512_5, e512, hx512_0, hx512_1, hx512_2, hx512_3, hx512_4, hx512_5, hl512_5, hi512_5⟩ := at_T77 HR0_0.out a1 p512 q512; obtain rfl : ad511 = ad512 := (by injection e512); replace hx512_0 := Bw_ hx512_0 HB; replace hx512_1 := Bw_ hx512_1 HB; replace hx512_2 := Bw_ hx512_2 HB; replace hx512_3 := Bw_ hx512_3 HB; replace hx512_4 := Bw_ hx512_4 HB; replace hx512_5 := Bw_ hx512_5 HB; have HR512_5 := Aside0.mk hi512_5; have HC512_5 := Aside0.mk hl512_5; clear hi512_5 hl512_5; replace p512 := eq_true p512; replace q512 := eq_true q512; have ea_ := Option.some.inj (hx511_5.symm.trans hx512_5); injection ea_ with ea_ en_ ec_; subst ea_; subst ec_; clear en_; have p513 : 0 ≤ (a2 : Int) := of_decide_eq_true As_; have q513 : a2 < (((rd_T77 l0_0 a1).f5).length : Int) := of_decide_eq_true As_; obtain ⟨ad513, e513, hx513_0⟩ := Kd.at_int HR512_5.out a2 p513 q513; cases e513; replace hx513_0 := Bw_ hx513_0 HB; replace p513 := eq_true p513; replace q513 := eq_true q513))
       go_ret
       exact ⟨Re_, Hf_ HB⟩
      ·rw [if_neg c14] at H
       exact absurd H (by simp)
     ·rw [if_neg c13] at H
      exact absurd H (by simp)
   ·rw [if_neg c7] at H
    exact absurd H (by simp)
  ·rw [if_neg c6] at H
   exact absurd H (by simp)
 ·replace c5 := Bool.eq_false_iff.mpr c5
  subst c5
  rw [if_neg Ff_] at H
  obtain rfl := Option.some.inj H
  go_enter Try.func105, Try.ntmps105
  go_wp2_with (first | ((with_reducible refine gate_dst (N := 3) rfl ?_); (try (refine gate_guard (by rfl) ?_; dsimp only)); refine box_event ?hg (N := 3) ?hd (cs := #[.slice A0_0 l0_0.length c0_0, .slice A0_1 l0_1.length c0_1, .slice A0_2 l0_2.length c0_2]) (t := 40) ?hr ?_; (case hd => rfl); (case hg => rfl); (case hr => first | (go_simp; done) | (go_simp; rfl)); intro gb509 hg w19 hbox hb; have BK509 := Aside0.mk (hbox); have GW509 := Hg_ HB hg; replace HB := Hs_ HB hb; clear hb hg; obtain ⟨hcz20_0, hcz20_1, hcz20_2, hfz20_0, hfz20_1, hfz20_2⟩ := Bc3_ BK509) | (refine Gl_ (some 9) Try.func78 ((impl_isNode.calls _ _ l0_0 _ _ l0_1 _ _ l0_2 a1 false _ (Sc_ HR0_0 HB) HC0_0.out (Sc_ HR0_1 HB) HC0_1.out (Sc_ HR0_2 HB) HC0_2.out A4.out).mono ?_); rintro e w21 ⟨rfl, hb⟩; refine ⟨_, rfl, ?_⟩; replace BK509 := Bb_ BK509 hb; replace HB := Hs_ HB hb; clear hb))
  go_ret
  exact ⟨Re_, Hf_ HB⟩

/-! ### impl_truth: function 140 -/
def impl_truth.f (a0 : Bool) : Option (Int) := if a0 = true then (some 1) else (some 0)
theorem impl_truth.calls (a0 : Bool) (r : Int) (w : World) (h : impl_truth.f a0 = some r) :
  Calls Try.prog 140 #[.bool a0] w fun e w' => e = .returned (.int .i64 r) ∧ Drawn0 w w' := by
 have H : (if a0 = true then (some 1) else (some 0)) = some r := h
 clear h
 by_cases c2 : a0 = true
 ·subst c2
  rw [if_pos rfl] at H
  obtain rfl := Option.some.inj H
  go_enter Try.func140, Try.ntmps140
  go_wp2
  go_ret
  exact ⟨by first | rfl | (simp; done) | (simp [*]; done), by repeat (first | exact Drawn0.refl _ | apply Drawn0.step)⟩
 ·replace c2 := Bool.eq_false_iff.mpr c2
  subst c2
  rw [if_neg Ff_] at H
  obtain rfl := Option.some.inj H
  go_enter Try.func140, Try.ntmps140
  go_wp2
  go_ret
  exact ⟨by first | rfl | (simp; done) | (simp [*]; done), by repeat (first | exact Drawn0.refl _ | apply Drawn0.step)⟩

/-! ### impl_Denied: function 106 -/
def impl_Denied.f (a0 : Int) : Option (Int) := (impl_truth.f (a0 == 0)).bind fun t514 => (some t514)
theorem impl_Denied.calls (a0 : Int) (r : Int) (w : World) (h : impl_Denied.f a0 = some r) :
  Calls Try.prog 106 #[.int .i64 a0] w fun e w' => e = .returned (.int .i64 r) ∧ Drawn0 w w' := by
 have H : ((impl_truth.f (a0 == 0)).bind fun t514 => (some t514)) = some r := h
 clear h
 obtain ⟨t514, A2, H⟩ := Bo_ H
 obtain rfl := Option.some.inj H
 go_enter Try.func106, Try.ntmps106
 go_wp2_with (first | (refine Gl_ (some 5) Try.func140 ((impl_truth.calls (a0 == 0) t514 _ A2.out).mono ?_); rintro e w' ⟨rfl, ⟨nd, rfl⟩⟩; refine ⟨_, rfl, ?_⟩))
 go_ret
 exact ⟨by first | rfl | (simp; done) | (simp [*]; done), by repeat (first | exact Drawn0.refl _ | apply Drawn0.step)⟩

end Go.Proofs.Ytmbkcbgbienjoaa.PFnExactValueOf
