/- The machine side of the law FnExactDeepOf: for each function that it reaches, a Lean function and its contract. Written by a program of this session's over the kit's print. No condition. -/
import Derived.Test.YtmbkcbgbienjoaaCmq
import Derived.Test.YtmbkcbgbienjoaaPFnExactDeepOfx0
import Derived.Test.YtmbkcbgbienjoaaPFnExactDeepOfx2
import Derived.Test.YtmbkcbgbienjoaaPFnExactDeepOfx3
import Derived.Test.YtmbkcbgbienjoaaPFnExactDeepOfx7
import Derived.Test.YtmbkcbgbienjoaaPFnExactDeepOfx12
import Derived.Test.YtmbkcbgbienjoaaPFnExactDeepOfx17
namespace Go.Proofs.Ytmbkcbgbienjoaa.PFnExactDeepOf
open Go.RowKit Go.Proofs.YtmbkcbgbienjoaaW.PrintWords Go.Proofs.YtmbkcbgbienjoaaW.PrintLast Go.Proofs.YtmbkcbgbienjoaaW.PrintMore Go.Proofs.Ytmbkcbgbienjoaa.Cmp
attribute [local go_sem] max2_int min2_int max_two min_two max_three min_three max_four min_four   -- for this text's walks alone
set_option linter.unusedVariables false
set_option maxHeartbeats 8000000
set_option maxRecDepth 100000
set_option linter.unusedSimpArgs false

/-! ### impl_deeps: function 84 -/
mutual
def impl_deeps.l0 : Nat → List Int → Int → Int → List (S77) → List (S106) → List (S103) → Option (List Int)
 | 0, _, _, _, _, _, _ => none
 | k + 1, x5, x14, x15, x423000, x423001, x423002 => if x15 < x14 then ((impl_NodeOk.f k x423000 x423001 x423002 x15).bind fun t426 => (if t426 = true then (impl_deeps.j1 k x5 x15 1 x14 x15 x423000 x423001 x423002) else (impl_deeps.j1 k x5 x15 11 x14 x15 x423000 x423001 x423002))) else (some x5)
def impl_deeps.j1 : Nat → List Int → Int → Int → Int → Int → List (S77) → List (S106) → List (S103) → Option (List Int)
 | 0, _, _, _, _, _, _, _, _ => none
 | k + 1, x5, x6, x7, x14, x15, x423000, x423001, x423002 => if 0 ≤ x6 then (if x6 < (x423000.length : Int) then (impl_deeps.l1 k x5 x6 x7 x14 x15 ((rd_T77 x423000 x6).f5) (((rd_T77 x423000 x6).f5).length : Int) 0 x423000 x423001 x423002) else (none)) else (none)
def impl_deeps.l1 : Nat → List Int → Int → Int → Int → Int → List Int → Int → Int → List (S77) → List (S106) → List (S103) → Option (List Int)
 | 0, _, _, _, _, _, _, _, _, _, _, _ => none
 | k + 1, x5, x6, x7, x14, x15, x27, x28, x29, x423000, x423001, x423002 => if x29 < x28 then (if 0 ≤ x29 then (if x29 < (x27.length : Int) then ((impl_within.f (rd x27 x29) 0 (wrap64 (x6 - 1))).bind fun t429 => (if t429 = true then (if 0 ≤ (rd x27 x29) then (if (rd x27 x29) < (x5.length : Int) then (if (rd x5 (rd x27 x29)) = 0 then (if 11 > 10 then (some x5) else (if 0 ≤ x6 then (if x6 < (x5.length : Int) then (impl_deeps.l0 k (x5.set (x6 : Int).toNat 11) x14 (wrap64 (x15 + 1)) x423000 x423001 x423002) else (none)) else (none))) else (impl_deeps.l1 k x5 x6 (mx x7 (wrap64 ((rd x5 (rd x27 x29)) + 1))) x14 x15 x27 x28 (wrap64 (x29 + 1)) x423000 x423001 x423002)) else (none)) else (none)) else (if 11 > 10 then (some x5) else (if 0 ≤ x6 then (if x6 < (x5.length : Int) then (impl_deeps.l0 k (x5.set (x6 : Int).toNat 11) x14 (wrap64 (x15 + 1)) x423000 x423001 x423002) else (none)) else (none))))) else (none)) else (none)) else (if x7 > 10 then (some x5) else (if 0 ≤ x6 then (if x6 < (x5.length : Int) then (impl_deeps.l0 k (x5.set (x6 : Int).toNat x7) x14 (wrap64 (x15 + 1)) x423000 x423001 x423002) else (none)) else (none)))
end
def impl_deeps.f (k : Nat) (l0_0 : List (S77)) (l0_1 : List (S106)) (l0_2 : List (S103)) (a1 : Int) : Option (List Int) := if 0 ≤ (wrap64 (a1 + 1)) then (if (wrap64 (a1 + 1) : Int).toNat ≤ 35184372088832 then ((some (List.replicate (wrap64 (a1 + 1) : Int).toNat 0 : List Int)).bind fun y423 => (impl_deeps.l0 k y423 (y423.length : Int) 0 l0_0 l0_1 l0_2)) else (none)) else (none)
theorem impl_deeps.calls (k : Nat) (A0_0 : Option Addr) (c0_0 : Nat) (l0_0 : List (S77)) (A0_1 : Option Addr) (c0_1 : Nat) (l0_1 : List (S106)) (A0_2 : Option Addr) (c0_2 : Nat) (l0_2 : List (S103)) (a1 : Int) (r : List Int) (w : World) (hr0_0 : Kd.C k77 w A0_0 l0_0.length l0_0) (hc0_0 : l0_0.length ≤ c0_0) (hr0_1 : Kd.C k106 w A0_1 l0_1.length l0_1) (hc0_1 : l0_1.length ≤ c0_1) (hr0_2 : Kd.C k103 w A0_2 l0_2.length l0_2) (hc0_2 : l0_2.length ≤ c0_2) (h : impl_deeps.f k l0_0 l0_1 l0_2 a1 = some r) :
  Calls Try.prog 84 #[.agg #[.slice A0_0 l0_0.length c0_0, .slice A0_1 l0_1.length c0_1, .slice A0_2 l0_2.length c0_2], .int .i64 a1] w fun e w' => ∃ v0_ : Value, e = .returned (v0_) ∧ Kd.R (Kd.int .i64) 3 w' w.heap.size (fun _ => True) v0_ r ∧ Below w.heap.size w w' := by
 have hu40 := Try.underlying40
 have HR0_0 := Aside0.mk hr0_0
 have HC0_0 := Aside0.mk hc0_0
 clear hr0_0 hc0_0
 have HR0_1 := Aside0.mk hr0_1
 have HC0_1 := Aside0.mk hc0_1
 clear hr0_1 hc0_1
 have HR0_2 := Aside0.mk hr0_2
 have HC0_2 := Aside0.mk hc0_2
 clear hr0_2 hc0_2
 have HB := Aside0.mk (Below.refl w.heap.size w)
 have H : (if 0 ≤ (wrap64 (a1 + 1)) then (if (wrap64 (a1 + 1) : Int).toNat ≤ 35184372088832 then ((some (List.replicate (wrap64 (a1 + 1) : Int).toNat 0 : List Int)).bind fun y423 => (impl_deeps.l0 k y423 (y423.length : Int) 0 l0_0 l0_1 l0_2)) else (none)) else (none)) = some r := h
 clear h
 obtain ⟨ji3, hji3⟩ : ∃ j_ : Int, (wrap64 (a1 + 1)) = j_ := ⟨_, rfl⟩
 replace H : (if 0 ≤ (ji3) then (if (ji3 : Int).toNat ≤ 35184372088832 then ((some (List.replicate (ji3 : Int).toNat 0 : List Int)).bind fun y423 => (impl_deeps.l0 k y423 (y423.length : Int) 0 l0_0 l0_1 l0_2)) else (none)) else (none)) = some r := by first | (rw [hji3] at H; exact H) | (simp only [hji3] at H ⊢; exact H)
 have hji3w : (IntKind.i64.wrap (a1 + 1)) = ji3 := (i64_w _).trans hji3
 by_cases c4 : 0 ≤ (ji3)
 ·rw [if_pos c4] at H
  have c4b0 := eq_true c4
  have c4b1 := decide_eq_true c4
  clear c4
  by_cases c5 : (ji3 : Int).toNat ≤ 35184372088832
  ·rw [if_pos c5] at H
   have c5b0 := eq_true c5
   have c5b1 := decide_eq_true c5
   clear c5
   obtain ⟨y423, hy423⟩ : ∃ y_ : List Int, y_ = (List.replicate (ji3 : Int).toNat 0) := ⟨_, rfl⟩
   replace H : (impl_deeps.l0 k y423 (y423.length : Int) 0 l0_0 l0_1 l0_2) = some r := by first | (rw [hy423]; with_reducible exact H) | (have H2_ := (Option.bind_some _ _).symm.trans H; rw [hy423]; with_reducible exact H2_) | (have H2_ := (Option.bind_some _ _).symm.trans H; with_reducible exact H2_) | with_reducible exact H | (rw [hy423]; exact H) | exact H
   have Ny423 := Aside0.mk hy423
   clear hy423
   have H' := Aside0.mk H
   clear H
   go_enter Try.func84, Try.ntmps84
   go_wp2_with (first | (refine Bv_ 2 #[.slice A0_0 l0_0.length c0_0, .slice A0_1 l0_1.length c0_1, .slice A0_2 l0_2.length c0_2] 40 ?_; intro gb422 hg w6 BK422 hb; have GW422 := Hg_ HB hg; replace HB := Hs_ HB hb; clear hb hg) | ((with_reducible refine gate_dst (N := 12) rfl ?_); refine Kd.R_make (Kd.int .i64) _ 3 rfl (N := 12) rfl 27 _ _ rfl ji3 rfl rfl Try.underlying27 (.int .i64 0) 8 info3 rfl (by decide) (by omega) 0 (ok := fun _ => True) (okp := fun _ => True) rfl (fun _ hk => hk) trivial (of_decide_eq_true As_) (Nat.le_trans (Nat.mul_le_mul_right _ (of_decide_eq_true As_ : ji3.toNat ≤ 35184372088832)) (by omega)) (Below.refl _ _) (Nat.le_refl _) ?_; intro v424 w7 ho8 hb hg_ hnew_; clear hg_ hnew_; (first | rw [← Ny423.out] at ho8 | (simp only [Int.reduceToNat] at ho8; rw [← Ny423.out] at ho8)); have HO425 := Aside0.mk (Kd.R_lower ho8 (below_size (Hf_ HB))); replace BK422 := Bb_ BK422 hb; replace HB := Hs_ HB hb; clear hb ho8; obtain ⟨Ao9, co9, eo9⟩ := Kd.R_slice HO425.out; subst eo9))
   go_loopg [15] k (fun kq v15 w' => ∃ (x5_1 : List Int) (x15_1 : Int), v15 = .int .i64 x15_1 ∧ Aside0 (impl_deeps.l0 kq x5_1 (y423.length : Int) x15_1 l0_0 l0_1 l0_2 = some r) ∧ Aside0 (kq ≤ k) ∧ Aside0 (Kd.R (Kd.int .i64) 3 w' w.heap.size (fun _ => True) (.slice Ao9 y423.length co9) x5_1) ∧ Aside0 (w'.heap[gb422]? = some (.cells #[(.slice A0_0 l0_0.length c0_0), (.slice A0_1 l0_1.length c0_1), (.slice A0_2 l0_2.length c0_2)] 40 (0, 0))) ∧ Aside0 (Below w.heap.size w w'))
   case atStart => exact ⟨(y423), (0), Rr_, H', ⟨Nat.le_refl _⟩, ⟨Rq_ HO425⟩, ⟨Bq_ BK422⟩, ⟨Hf_ HB⟩⟩
   case round =>
    clear H'
    try clear p2
    try clear c4
    try clear c4b0
    try clear c4b1
    try clear c5
    try clear c5b0
    try clear c5b1
    try clear p6
    try clear c8
    obtain ⟨x5_1, x15_1, rfl, HA, HK1, HO_5, BK422, HB⟩ := hrel
    have hl5_1 := (Kd.R_reads' HO_5.out).1
    rw [hl5_1] at HO_5
    (try simp only [hl5_1])
    (try simp only [hl5_1] at BK422)
    cases gk with
    | zero => exact absurd HA.out (by simp [impl_deeps.l0])
    | succ k1 =>
     have H := HA.out
     clear HA
     simp only [impl_deeps.l0] at H
     by_cases c10 : x15_1 < (y423.length : Int)
     ·rw [if_pos c10] at H
      have c10b0 := decide_eq_true c10
      have c10b1 := decide_eq_true (p := x15_1 < (x5_1.length : Int)) (by rw [← hl5_1]; exact c10)
      clear c10
      obtain ⟨t426, A11, H⟩ := Bo_ H
      have HC12 := Aside0.mk H
      clear H
      obtain ⟨hcz13_0, hcz13_1, hcz13_2, hfz13_0, hfz13_1, hfz13_2⟩ := Bc3_ BK422
      go_upto_if 21 with (first | (refine Gl_ (some 20) Try.func36 ((impl_NodeOk.calls k1 _ _ l0_0 _ _ l0_1 _ _ l0_2 x15_1 t426 _ (Sc_ HR0_0 HB) HC0_0.out (Sc_ HR0_1 HB) HC0_1.out (Sc_ HR0_2 HB) HC0_2.out A11.out).mono ?_); rintro e w14 ⟨rfl, hb⟩; refine ⟨_, rfl, ?_⟩; replace HO_5 := Rb_ HO_5 hb; replace BK422 := Bb_ BK422 hb; replace HB := Hs_ HB hb; clear hb))
      (try simp only [Act.put, List.setIfInBounds_toArray, List.set_cons_zero, List.set_cons_succ])
      go_cut [7] (fun v7 wc => ∃ (kq : Nat) (x7_11 : Int), v7 = .int .i64 x7_11 ∧ Aside0 (impl_deeps.j1 kq x5_1 x15_1 x7_11 (y423.length : Int) x15_1 l0_0 l0_1 l0_2 = some r) ∧ Aside0 (kq ≤ k1) ∧ Aside0 (Kd.R (Kd.int .i64) 3 wc w.heap.size (fun _ => True) (.slice Ao9 x5_1.length co9) x5_1) ∧ Aside0 (wc.heap[gb422]? = some (.cells #[(.slice A0_0 l0_0.length c0_0), (.slice A0_1 l0_1.length c0_1), (.slice A0_2 l0_2.length c0_2)] 40 (0, 0))) ∧ Aside0 (Below w.heap.size w wc))
      case first =>
       have H := HC12.out
       clear HC12
       by_cases c15 : t426 = true
       ·subst c15
        rw [if_pos rfl] at H
        have H' := Aside0.mk H
        clear H
        go_wp2
        go_meet
        case rel => exact ⟨_, (1), Rr_, H', ⟨by have := HK1.out; first | omega | exact Nat.le_refl _⟩, ⟨by (try simp only [hl5_1]); (with_reducible repeat (first | apply Kd.R_alloc | apply Kd.R_drewN | apply Kd.R_drew)); exact HO_5.out⟩, ⟨by (try simp only [hl5_1]); (with_reducible repeat (first | refine blk_drewN ?_ _ | refine blk_drew ?_ | refine blk_alloc ?_ _)); exact BK422.out⟩, ⟨Hf_ HB⟩⟩
       ·replace c15 := Bool.eq_false_iff.mpr c15
        subst c15
        rw [if_neg Ff_] at H
        have H' := Aside0.mk H
        clear H
        go_wp2
        go_meet
        case rel => exact ⟨_, (11), Rr_, H', ⟨by have := HK1.out; first | omega | exact Nat.le_refl _⟩, ⟨by (try simp only [hl5_1]); (with_reducible repeat (first | apply Kd.R_alloc | apply Kd.R_drewN | apply Kd.R_drew)); exact HO_5.out⟩, ⟨by (try simp only [hl5_1]); (with_reducible repeat (first | refine blk_drewN ?_ _ | refine blk_drew ?_ | refine blk_alloc ?_ _)); exact BK422.out⟩, ⟨Hf_ HB⟩⟩
      case rest =>
       clear HC12
       try clear c1
       try clear p2
       try clear c3
       try clear c4
       try clear c4b0
       try clear c4b1
       try clear c5
       try clear c5b0
       try clear c5b1
       try clear p6
       try clear c8
       try clear c10
       try clear c10b0
       try clear c15
       try clear hcz13_0
       try clear hcz13_1
       try clear hcz13_2
       try clear hfz13_0
       try clear hfz13_1
       try clear hfz13_2
       try clear p2
       try clear p6
       obtain ⟨kq, x7_11, rfl, HA, HJ11, HO_5, BK422, HB⟩ := hcut
       cases kq with
       | zero => exact absurd HA.out (by simp [impl_deeps.j1])
       | succ kj11 =>
        have H := HA.out
        clear HA
        simp only [impl_deeps.j1] at H
        by_cases c16 : 0 ≤ x15_1
        ·rw [if_pos c16] at H
         have c16b0 := decide_eq_true c16
         clear c16
         by_cases c17 : x15_1 < (l0_0.length : Int)
         ·rw [if_pos c17] at H
          have c17b0 := decide_eq_true c17
          clear c17
          have H' := Aside0.mk H
          clear H
          obtain ⟨hcz18_0, hcz18_1, hcz18_2, hfz18_0, hfz18_1, hfz18_2⟩ := Bc3_ BK422
          have p427 : 0 ≤ (x15_1 : Int) := of_decide_eq_true As_
          have q427 : x15_1 < (l0_0.length : Int) := of_decide_eq_true As_
          obtain ⟨ad427, A427_5, c427_5, e427, hx427_0, hx427_1, hx427_2, hx427_3, hx427_4, hx427_5, hl427_5, hi427_5⟩ := at_T77 HR0_0.out x15_1 p427 q427
          cases e427
          replace hx427_0 := Bw_ hx427_0 HB
          replace hx427_1 := Bw_ hx427_1 HB
          replace hx427_2 := Bw_ hx427_2 HB
          replace hx427_3 := Bw_ hx427_3 HB
          replace hx427_4 := Bw_ hx427_4 HB
          replace hx427_5 := Bw_ hx427_5 HB
          have HR427_5 := Aside0.mk hi427_5
          have HC427_5 := Aside0.mk hl427_5
          clear hi427_5 hl427_5
          replace p427 := eq_true p427
          replace q427 := eq_true q427
          go_wp2
          go_loopg [7, 29] kj11 (fun kq v7 v29 w' => ∃ (x7_3 : Int) (x29_3 : Int), v7 = .int .i64 x7_3 ∧ v29 = .int .i64 x29_3 ∧ Aside0 (impl_deeps.l1 kq x5_1 x15_1 x7_3 (y423.length : Int) x15_1 ((rd_T77 l0_0 x15_1).f5) (((rd_T77 l0_0 x15_1).f5).length : Int) x29_3 l0_0 l0_1 l0_2 = some r) ∧ Aside0 (kq ≤ kj11) ∧ Aside0 (Kd.R (Kd.int .i64) 3 w' w.heap.size (fun _ => True) (.slice Ao9 x5_1.length co9) x5_1) ∧ Aside0 (w'.heap[gb422]? = some (.cells #[(.slice (some ad427) l0_0.length c0_0), (.slice A0_1 l0_1.length c0_1), (.slice A0_2 l0_2.length c0_2)] 40 (0, 0))) ∧ Aside0 (Below w.heap.size w w'))
          case atStart => exact ⟨(x7_11), (0), Rr_, Rr_, H', ⟨Nat.le_refl _⟩, ⟨by (try simp only [hl5_1]); (with_reducible repeat (first | apply Kd.R_alloc | apply Kd.R_drewN | apply Kd.R_drew)); exact HO_5.out⟩, ⟨by (try simp only [hl5_1]); (with_reducible repeat (first | refine blk_drewN ?_ _ | refine blk_drew ?_ | refine blk_alloc ?_ _)); exact BK422.out⟩, ⟨Hf_ HB⟩⟩
          case round =>
           clear H'
           try clear c1
           try clear p2
           try clear c3
           try clear c4
           try clear c4b0
           try clear c4b1
           try clear p4
           try clear q4
           try clear hx4
           try clear c5
           try clear c5b0
           try clear c5b1
           try clear p6
           try clear c8
           try clear c10
           try clear c10b0
           try clear c15
           try clear c16
           try clear c16b0
           try clear c17
           try clear c17b0
           try clear hcz13_0
           try clear hcz13_1
           try clear hcz13_2
           try clear hcz18_0
           try clear hcz18_1
           try clear hcz18_2
           try clear hfz13_0
           try clear hfz13_1
           try clear hfz13_2
           try clear hfz18_0
           try clear hfz18_1
           try clear hfz18_2
           try clear hx427_0
           try clear hx427_1
           try clear hx427_2
           try clear hx427_3
           try clear hx427_4
           try clear hx427_5
           try clear p2
           try clear p427
           try clear p6
           try clear q427
           obtain ⟨x7_3, x29_3, rfl, rfl, HA, HK3, HO_5, BK422, HB⟩ := hrel
           cases gk with
           | zero => exact absurd HA.out (by simp [impl_deeps.l1])
           | succ k3 =>
            have H := HA.out
            clear HA
            simp only [impl_deeps.l1] at H
            by_cases c19 : x29_3 < (((rd_T77 l0_0 x15_1).f5).length : Int)
            ·rw [if_pos c19] at H
             have c19b0 := decide_eq_true c19
             clear c19
             by_cases c20 : 0 ≤ x29_3
             ·rw [if_pos c20] at H
              have c20b0 := decide_eq_true c20
              clear c20
              by_cases c21 : x29_3 < (((rd_T77 l0_0 x15_1).f5).length : Int)
              ·rw [if_pos c21] at H
               have c21b0 := decide_eq_true c21
               clear c21
               obtain ⟨t429, A22, H⟩ := Bo_ H
               by_cases c23 : t429 = true
               ·subst c23
                rw [if_pos rfl] at H
                by_cases c24 : 0 ≤ (rd ((rd_T77 l0_0 x15_1).f5) x29_3)
                ·rw [if_pos c24] at H
                 have c24b0 := decide_eq_true c24
                 clear c24
                 by_cases c25 : (rd ((rd_T77 l0_0 x15_1).f5) x29_3) < (x5_1.length : Int)
                 ·rw [if_pos c25] at H
                  have c25b0 := decide_eq_true c25
                  clear c25
                  by_cases c26 : (rd x5_1 (rd ((rd_T77 l0_0 x15_1).f5) x29_3)) = 0
                  ·rw [if_pos c26] at H
                   have c26b0 := beq_iff_eq.mpr c26
                   have c26b1 := bne_eq_false_iff_eq.mpr c26
                   clear c26
                   by_cases c27 : 11 > 10
                   ·rw [if_pos c27] at H
                    have c27b0 : decide (10 < 11) = true := decide_eq_true c27
                    clear c27
                    obtain rfl := Option.some.inj H
                    have p428 : 0 ≤ (x29_3 : Int) := of_decide_eq_true As_
                    have q428 : x29_3 < (((rd_T77 l0_0 x15_1).f5).length : Int) := of_decide_eq_true As_
                    obtain ⟨ad428, e428, hx428_0⟩ := Kd.at_int HR427_5.out x29_3 p428 q428
                    cases e428
                    replace hx428_0 := Bw_ hx428_0 HB
                    replace p428 := eq_true p428
                    replace q428 := eq_true q428
                    go_wp2_with (first | (refine Gl_ (some 36) Try.func79 ((impl_within.calls (rd ((rd_T77 l0_0 x15_1).f5) x29_3) 0 (wrap64 (x15_1 - 1)) true _ A22.out).mono ?_); rintro e w' ⟨rfl, ⟨nd, rfl⟩⟩; refine ⟨_, rfl, ?_⟩; have p430 : 0 ≤ ((rd ((rd_T77 l0_0 x15_1).f5) x29_3) : Int) := of_decide_eq_true As_; have q430 : (rd ((rd_T77 l0_0 x15_1).f5) x29_3) < (x5_1.length : Int) := of_decide_eq_true As_; obtain ⟨ad430, e430, hx430_0⟩ := Kd.at_int (Kd.R_reads' HO_5.out).2.2 (rd ((rd_T77 l0_0 x15_1).f5) x29_3) p430 q430; cases e430; replace p430 := eq_true p430; replace q430 := eq_true q430))
                    go_ret
                    exact ⟨_, by first | rfl | (simp [errW_none, errW_some] <;> rfl) | (simp only [← hji3]; first | rfl | (simp [errW_none, errW_some] <;> rfl)) | (simp [*, errW_none, errW_some] <;> rfl), by (with_reducible repeat (first | apply Kd.R_alloc | apply Kd.R_drewN | apply Kd.R_drew)); exact HO_5.out, Hf_ HB⟩
                   ·exact absurd (by decide) c27
                  ·rw [if_neg c26] at H
                   have c26b0 := beq_eq_false_iff_ne.mpr c26
                   have c26b1 := bne_iff_ne.mpr c26
                   obtain ⟨ji33, hji33⟩ : ∃ j_ : Int, (mx x7_3 (wrap64 ((rd x5_1 (rd ((rd_T77 l0_0 x15_1).f5) x29_3)) + 1))) = j_ := ⟨_, rfl⟩
                   replace H : (impl_deeps.l1 k3 x5_1 x15_1 ji33 (y423.length : Int) x15_1 ((rd_T77 l0_0 x15_1).f5) (((rd_T77 l0_0 x15_1).f5).length : Int) (wrap64 (x29_3 + 1)) l0_0 l0_1 l0_2) = some r := by first | (rw [hji33] at H; exact H) | (simp only [hji33] at H ⊢; exact H)
                   (try rw [hji33] at A22)
                   have hji33_ : (if x7_3 < (wrap64 ((rd x5_1 (rd ((rd_T77 l0_0 x15_1).f5) x29_3)) + 1)) then (wrap64 ((rd x5_1 (rd ((rd_T77 l0_0 x15_1).f5) x29_3)) + 1)) else x7_3) = ji33 := hji33
                   have H' := Aside0.mk H
                   clear H
                   have p428 : 0 ≤ (x29_3 : Int) := of_decide_eq_true As_
                   have q428 : x29_3 < (((rd_T77 l0_0 x15_1).f5).length : Int) := of_decide_eq_true As_
                   obtain ⟨ad428, e428, hx428_0⟩ := Kd.at_int HR427_5.out x29_3 p428 q428
                   cases e428
                   replace hx428_0 := Bw_ hx428_0 HB
                   replace p428 := eq_true p428
                   replace q428 := eq_true q428
                   go_wp2_with (first | (refine Gl_ (some 36) Try.func79 ((impl_within.calls (rd ((rd_T77 l0_0 x15_1).f5) x29_3) 0 (wrap64 (x15_1 - 1)) true _ A22.out).mono ?_); rintro e w' ⟨rfl, ⟨nd, rfl⟩⟩; refine ⟨_, rfl, ?_⟩; have p430 : 0 ≤ ((rd ((rd_T77 l0_0 x15_1).f5) x29_3) : Int) := of_decide_eq_true As_; have q430 : (rd ((rd_T77 l0_0 x15_1).f5) x29_3) < (x5_1.length : Int) := of_decide_eq_true As_; obtain ⟨ad430, e430, hx430_0⟩ := Kd.at_int (Kd.R_reads' HO_5.out).2.2 (rd ((rd_T77 l0_0 x15_1).f5) x29_3) p430 q430; cases e430; replace p430 := eq_true p430; replace q430 := eq_true q430; have p432 : 0 ≤ ((rd ((rd_T77 l0_0 x15_1).f5) x29_3) : Int) := of_decide_eq_true As_; have q432 : (rd ((rd_T77 l0_0 x15_1).f5) x29_3) < (x5_1.length : Int) := of_decide_eq_true As_; obtain ⟨ad432, e432, hx432_0⟩ := Kd.at_int (Kd.R_reads' HO_5.out).2.2 (rd ((rd_T77 l0_0 x15_1).f5) x29_3) p432 q432; obtain rfl : ad430 = ad432 := (by injection e432); replace p432 := eq_true p432; replace q432 := eq_true q432))
                   go_roundg k3
                   case measure => have := HK1.out; have := HJ11.out; have := HK3.out; omega
                   case rel => exact ⟨(ji33), (wrap64 (x29_3 + 1)), (by first | rfl | (simp; done) | (simp only [← hji33] <;> (first | rfl | simp)) | (simp [*]; done)), Rr_, H', ⟨by have := HK1.out; have := HJ11.out; have := HK3.out; omega⟩, ⟨by (try simp only [hl5_1]); (with_reducible repeat (first | apply Kd.R_alloc | apply Kd.R_drewN | apply Kd.R_drew)); exact HO_5.out⟩, ⟨by (try simp only [hl5_1]); (with_reducible repeat (first | refine blk_drewN ?_ _ | refine blk_drew ?_ | refine blk_alloc ?_ _)); exact BK422.out⟩, ⟨Hf_ HB⟩⟩
                 ·rw [if_neg c25] at H
                  exact absurd H (by simp)
                ·rw [if_neg c24] at H
                 exact absurd H (by simp)
               ·replace c23 := Bool.eq_false_iff.mpr c23
                subst c23
                rw [if_neg Ff_] at H
                by_cases c34 : 11 > 10
                ·rw [if_pos c34] at H
                 have c34b0 : decide (10 < 11) = true := decide_eq_true c34
                 clear c34
                 obtain rfl := Option.some.inj H
                 have p428 : 0 ≤ (x29_3 : Int) := of_decide_eq_true As_
                 have q428 : x29_3 < (((rd_T77 l0_0 x15_1).f5).length : Int) := of_decide_eq_true As_
                 obtain ⟨ad428, e428, hx428_0⟩ := Kd.at_int HR427_5.out x29_3 p428 q428
                 cases e428
                 replace hx428_0 := Bw_ hx428_0 HB
                 replace p428 := eq_true p428
                 replace q428 := eq_true q428
                 go_wp2_with (first | (refine Gl_ (some 36) Try.func79 ((impl_within.calls (rd ((rd_T77 l0_0 x15_1).f5) x29_3) 0 (wrap64 (x15_1 - 1)) false _ A22.out).mono ?_); rintro e w' ⟨rfl, ⟨nd, rfl⟩⟩; refine ⟨_, rfl, ?_⟩))
                 go_ret
                 exact ⟨_, by first | rfl | (simp [errW_none, errW_some] <;> rfl) | (simp only [← hji3]; first | rfl | (simp [errW_none, errW_some] <;> rfl)) | (simp [*, errW_none, errW_some] <;> rfl), by (with_reducible repeat (first | apply Kd.R_alloc | apply Kd.R_drewN | apply Kd.R_drew)); exact HO_5.out, Hf_ HB⟩
                ·exact absurd (by decide) c34
              ·rw [if_neg c21] at H
               exact absurd H (by simp)
             ·rw [if_neg c20] at H
              exact absurd H (by simp)
            ·rw [if_neg c19] at H
             have c19b0 := decide_eq_false c19
             clear c19
             by_cases c40 : x7_3 > 10
             ·rw [if_pos c40] at H
              have c40b0 : decide (10 < x7_3) = true := decide_eq_true c40
              clear c40
              obtain rfl := Option.some.inj H
              go_wp2
              go_ret
              exact ⟨_, by first | rfl | (simp [errW_none, errW_some] <;> rfl) | (simp only [← hji3]; first | rfl | (simp [errW_none, errW_some] <;> rfl)) | (simp [*, errW_none, errW_some] <;> rfl), by (with_reducible repeat (first | apply Kd.R_alloc | apply Kd.R_drewN | apply Kd.R_drew)); exact HO_5.out, Hf_ HB⟩
             ·rw [if_neg c40] at H
              have c40b0 : decide (10 < x7_3) = false := decide_eq_false c40
              clear c40
              by_cases c41 : 0 ≤ x15_1
              ·rw [if_pos c41] at H
               have c41b0 := decide_eq_true c41
               clear c41
               by_cases c42 : x15_1 < (x5_1.length : Int)
               ·rw [if_pos c42] at H
                have c42b0 := decide_eq_true c42
                clear c42
                obtain ⟨y434, hy434⟩ : ∃ y_ : List Int, y_ = (x5_1.set (x15_1 : Int).toNat x7_3) := ⟨_, rfl⟩
                replace H : (impl_deeps.l0 k3 y434 (y423.length : Int) (wrap64 (x15_1 + 1)) l0_0 l0_1 l0_2) = some r := by first | (rw [hy434]; with_reducible exact H) | (have H2_ := (Option.bind_some _ _).symm.trans H; rw [hy434]; with_reducible exact H2_) | (have H2_ := (Option.bind_some _ _).symm.trans H; with_reducible exact H2_) | with_reducible exact H | (rw [hy434]; exact H) | exact H
                have Ny434 := Aside0.mk hy434
                clear hy434
                have H' := Aside0.mk H
                clear H
                have p43 : 0 ≤ (x15_1 : Int) := of_decide_eq_true As_
                have q43 : (x15_1 : Int) < ((x5_1.length : Int) : Int) := of_decide_eq_true As_
                obtain ⟨go43, co43, eo43, gb43, gl43, cl43, HG43⟩ := Kd.R_form HO_5.out (by omega)
                (first | cases eo43 | (injection eo43 with ea_ en_ ec_; (first | subst ea_ | (injection ea_ with ea_; subst ea_)); subst ec_; clear en_))
                have GB43 := Aside0.mk gb43
                have GG43 := Aside0.mk HG43
                clear gb43 gl43 HG43
                obtain ⟨hx43_0, hf43_0⟩ := Kd.R_celln 0 HO_5.out (x15_1 : Int) p43 q43
                replace p43 := eq_true p43
                replace q43 := eq_true q43
                have HP44 := Kd.R_putg HO_5.out (x15_1 : Int) x7_3
                go_wp2_with (first | ((with_reducible refine gate_store (t := 3) (p := 58) rfl ?_); refine store_event (t := 3) (p := 58) (v := ?vo_w45) (w1 := (wr.setCell ⟨go43, (x15_1 : Int).toNat, none⟩ (.int .i64 x7_3))) ?hg ?ho ?hn ?hr ?_; (case ho => rfl); (case hg => rfl); (case hn => rfl); (case hr => first | (go_simp; done) | (go_simp; rfl)); intro w45 hw; have hg : wr.grownBy w45 (some go43) := (by rw [hw]; exact HP44.2); have hp_ : Kd.R (Kd.int .i64) 3 w45 w.heap.size (fun _ => True) (.slice (some ⟨go43, 0, none⟩) x5_1.length co9) y434 := (by rw [hw, Ny434.out]; exact HP44.1); clear HP44; have n0_ := Aside0.mk (hp_); have n1_ := Aside0.mk (blk_grown (g := gb422) (o := .cells #[.slice (some ad427) l0_0.length c0_0, .slice A0_1 l0_1.length c0_1, .slice A0_2 l0_2.length c0_2] 40 (0, 0)) (Bq_ BK422) hg (Kd.R_ne HO_5.out BK422.out (by decide))); have n2_ := Aside0.mk ((by rw [hw]; exact below_set (HB.out) GB43.out : Below w.heap.size w w45)); clear HO_5; clear BK422; clear HB; have HO_5 := n0_; have BK422 := n1_; have HB := n2_; clear n0_ n1_ n2_; clear hg hw hp_))
                (try simp only [← hl5_1])
                go_roundg k3
                case measure => have := HK1.out; have := HJ11.out; have := HK3.out; omega
                case rel => exact ⟨(y434), (wrap64 (x15_1 + 1)), Rr_, H', ⟨by have := HK1.out; have := HJ11.out; have := HK3.out; omega⟩, ⟨by (try simp only [hl5_1]); (with_reducible repeat (first | apply Kd.R_alloc | apply Kd.R_drewN | apply Kd.R_drew)); exact HO_5.out⟩, ⟨by (try simp only [hl5_1]); (with_reducible repeat (first | refine blk_drewN ?_ _ | refine blk_drew ?_ | refine blk_alloc ?_ _)); exact BK422.out⟩, ⟨Hf_ HB⟩⟩
               ·rw [if_neg c42] at H
                exact absurd H (by simp)
              ·rw [if_neg c41] at H
               exact absurd H (by simp)
         ·rw [if_neg c17] at H
          exact absurd H (by simp)
        ·rw [if_neg c16] at H
         exact absurd H (by simp)
     ·rw [if_neg c10] at H
      have c10b0 := decide_eq_false c10
      have c10b1 := decide_eq_false (p := x15_1 < (x5_1.length : Int)) (by rw [← hl5_1]; exact c10)
      clear c10
      obtain rfl := Option.some.inj H
      go_wp2
      go_ret
      exact ⟨_, by first | rfl | (simp [errW_none, errW_some] <;> rfl) | (simp only [← hji3]; first | rfl | (simp [errW_none, errW_some] <;> rfl)) | (simp [*, errW_none, errW_some] <;> rfl), by (with_reducible repeat (first | apply Kd.R_alloc | apply Kd.R_drewN | apply Kd.R_drew)); exact HO_5.out, Hf_ HB⟩
  ·rw [if_neg c5] at H
   exact absurd H (by simp)
 ·rw [if_neg c4] at H
  exact absurd H (by simp)

/-! ### impl_DeepOf: function 38 -/
def impl_DeepOf.f (k : Nat) (l0_0 : List (S77)) (l0_1 : List (S106)) (l0_2 : List (S103)) (a1 : Int) : Option (Int) := (impl_isNode.f l0_0 l0_1 l0_2 a1).bind fun t436 => (if t436 = true then ((impl_deeps.f k l0_0 l0_1 l0_2 a1).bind fun t437 => (if 0 ≤ a1 then (if a1 < (t437.length : Int) then (some (rd t437 a1)) else (none)) else (none))) else (some 0))
theorem impl_DeepOf.calls (k : Nat) (A0_0 : Option Addr) (c0_0 : Nat) (l0_0 : List (S77)) (A0_1 : Option Addr) (c0_1 : Nat) (l0_1 : List (S106)) (A0_2 : Option Addr) (c0_2 : Nat) (l0_2 : List (S103)) (a1 : Int) (r : Int) (w : World) (hr0_0 : Kd.C k77 w A0_0 l0_0.length l0_0) (hc0_0 : l0_0.length ≤ c0_0) (hr0_1 : Kd.C k106 w A0_1 l0_1.length l0_1) (hc0_1 : l0_1.length ≤ c0_1) (hr0_2 : Kd.C k103 w A0_2 l0_2.length l0_2) (hc0_2 : l0_2.length ≤ c0_2) (h : impl_DeepOf.f k l0_0 l0_1 l0_2 a1 = some r) :
  Calls Try.prog 38 #[.agg #[.slice A0_0 l0_0.length c0_0, .slice A0_1 l0_1.length c0_1, .slice A0_2 l0_2.length c0_2], .int .i64 a1] w fun e w' => e = .returned (.int .i64 r) ∧ Below w.heap.size w w' := by
 have hu40 := Try.underlying40
 have HR0_0 := Aside0.mk hr0_0
 have HC0_0 := Aside0.mk hc0_0
 clear hr0_0 hc0_0
 have HR0_1 := Aside0.mk hr0_1
 have HC0_1 := Aside0.mk hc0_1
 clear hr0_1 hc0_1
 have HR0_2 := Aside0.mk hr0_2
 have HC0_2 := Aside0.mk hc0_2
 clear hr0_2 hc0_2
 have HB := Aside0.mk (Below.refl w.heap.size w)
 have H : ((impl_isNode.f l0_0 l0_1 l0_2 a1).bind fun t436 => (if t436 = true then ((impl_deeps.f k l0_0 l0_1 l0_2 a1).bind fun t437 => (if 0 ≤ a1 then (if a1 < (t437.length : Int) then (some (rd t437 a1)) else (none)) else (none))) else (some 0))) = some r := h
 clear h
 obtain ⟨t436, A3, H⟩ := Bo_ H
 by_cases c4 : t436 = true
 ·subst c4
  rw [if_pos rfl] at H
  obtain ⟨t437, A5, H⟩ := Bo_ H
  by_cases c6 : 0 ≤ a1
  ·rw [if_pos c6] at H
   have c6b0 := decide_eq_true c6
   clear c6
   by_cases c7 : a1 < (t437.length : Int)
   ·rw [if_pos c7] at H
    have c7b0 := decide_eq_true c7
    clear c7
    obtain rfl := Option.some.inj H
    go_enter Try.func38, Try.ntmps38
    go_wp2_with (first | (refine Bv_ 2 #[.slice A0_0 l0_0.length c0_0, .slice A0_1 l0_1.length c0_1, .slice A0_2 l0_2.length c0_2] 40 ?_; intro gb435 hg w8 BK435 hb; have GW435 := Hg_ HB hg; replace HB := Hs_ HB hb; clear hb hg; obtain ⟨hcz9_0, hcz9_1, hcz9_2, hfz9_0, hfz9_1, hfz9_2⟩ := Bc3_ BK435) | (refine Gl_ (some 7) Try.func78 ((impl_isNode.calls _ _ l0_0 _ _ l0_1 _ _ l0_2 a1 true _ (Sc_ HR0_0 HB) HC0_0.out (Sc_ HR0_1 HB) HC0_1.out (Sc_ HR0_2 HB) HC0_2.out A3.out).mono ?_); rintro e w10 ⟨rfl, hb⟩; refine ⟨_, rfl, ?_⟩; replace BK435 := Bb_ BK435 hb; replace HB := Hs_ HB hb; clear hb; obtain ⟨hcz11_0, hcz11_1, hcz11_2, hfz11_0, hfz11_1, hfz11_2⟩ := Bc3_ BK435) | (refine Gl_ (some 11) Try.func84 ((impl_deeps.calls k _ _ l0_0 _ _ l0_1 _ _ l0_2 a1 t437 _ (Sc_ HR0_0 HB) HC0_0.out (Sc_ HR0_1 HB) HC0_1.out (Sc_ HR0_2 HB) HC0_2.out A5.out).mono ?_); rintro e w12 ⟨v438, rfl, ho0, hb⟩; refine ⟨_, rfl, ?_⟩; have HO439 := Aside0.mk (Kd.R_lower ho0 (below_size (Hf_ HB))); replace BK435 := Bb_ BK435 hb; replace HB := Hs_ HB hb; clear hb; (try clear ho0); obtain ⟨Ao13, co13, eo13⟩ := Kd.R_slice HO439.out; subst eo13; have p440 : 0 ≤ (a1 : Int) := of_decide_eq_true As_; have q440 : a1 < (t437.length : Int) := of_decide_eq_true As_; obtain ⟨ad440, e440, hx440_0⟩ := Kd.at_int (Kd.R_reads' HO439.out).2.2 a1 p440 q440; cases e440; replace p440 := eq_true p440; replace q440 := eq_true q440))
    go_ret
    exact ⟨Re_, Hf_ HB⟩
   ·rw [if_neg c7] at H
    exact absurd H (by simp)
  ·rw [if_neg c6] at H
   exact absurd H (by simp)
 ·replace c4 := Bool.eq_false_iff.mpr c4
  subst c4
  rw [if_neg Ff_] at H
  obtain rfl := Option.some.inj H
  go_enter Try.func38, Try.ntmps38
  go_wp2_with (first | (refine Bv_ 2 #[.slice A0_0 l0_0.length c0_0, .slice A0_1 l0_1.length c0_1, .slice A0_2 l0_2.length c0_2] 40 ?_; intro gb435 hg w14 BK435 hb; have GW435 := Hg_ HB hg; replace HB := Hs_ HB hb; clear hb hg; obtain ⟨hcz15_0, hcz15_1, hcz15_2, hfz15_0, hfz15_1, hfz15_2⟩ := Bc3_ BK435) | (refine Gl_ (some 7) Try.func78 ((impl_isNode.calls _ _ l0_0 _ _ l0_1 _ _ l0_2 a1 false _ (Sc_ HR0_0 HB) HC0_0.out (Sc_ HR0_1 HB) HC0_1.out (Sc_ HR0_2 HB) HC0_2.out A3.out).mono ?_); rintro e w16 ⟨rfl, hb⟩; refine ⟨_, rfl, ?_⟩; replace BK435 := Bb_ BK435 hb; replace HB := Hs_ HB hb; clear hb))
  go_ret
  exact ⟨Re_, Hf_ HB⟩

/-! ### laws_FnExactDeepOf: function 7 -/
def laws_FnExactDeepOf.f (k : Nat) (l0_0 : List (S113)) (l0_1 : List (S117)) (l0_2 : List (S119)) (a1 : Int) : Option (Bool) := (laws_szProgram.f k l0_0 l0_1 l0_2 1048576).bind fun t442 => (if t442 < 0 then (some true) else ((laws_toProgram.f k l0_0 l0_1 l0_2).bind fun bt443 => ((spec_DeepOf.f k bt443.1 bt443.2.1 bt443.2.2 a1).bind fun t452 => ((laws_toProgram.f k l0_0 l0_1 l0_2).bind fun bt453 => ((impl_DeepOf.f k bt453.1 bt453.2.1 bt453.2.2 a1).bind fun t463 => (if t463 = t452 then ((laws_toProgram.f k l0_0 l0_1 l0_2).bind fun bt464 => ((laws_eqProgram.f k bt453.1 bt453.2.1 bt453.2.2 bt464.1 bt464.2.1 bt464.2.2).bind fun t473 => (if t473 = true then (some true) else (some false)))) else (some false)))))))
theorem laws_FnExactDeepOf.calls (k : Nat) (A0_0 : Option Addr) (c0_0 : Nat) (l0_0 : List (S113)) (A0_1 : Option Addr) (c0_1 : Nat) (l0_1 : List (S117)) (A0_2 : Option Addr) (c0_2 : Nat) (l0_2 : List (S119)) (a1 : Int) (r : Bool) (w : World) (hr0_0 : Kd.C k113 w A0_0 l0_0.length l0_0) (hc0_0 : l0_0.length ≤ c0_0) (hr0_1 : Kd.C k117 w A0_1 l0_1.length l0_1) (hc0_1 : l0_1.length ≤ c0_1) (hr0_2 : Kd.C k119 w A0_2 l0_2.length l0_2) (hc0_2 : l0_2.length ≤ c0_2) (hlaw_ : Aside0 (r = true)) (h : laws_FnExactDeepOf.f k l0_0 l0_1 l0_2 a1 = some r) :
  Calls Try.prog 7 #[.agg #[.slice A0_0 l0_0.length c0_0, .slice A0_1 l0_1.length c0_1, .slice A0_2 l0_2.length c0_2], .int .i64 a1] w fun e w' => e = .returned (.bool r) ∧ Below w.heap.size w w' := by
 have hu26 := Try.underlying26
 have hu40 := Try.underlying40
 have HR0_0 := Aside0.mk hr0_0
 have HC0_0 := Aside0.mk hc0_0
 clear hr0_0 hc0_0
 have HR0_1 := Aside0.mk hr0_1
 have HC0_1 := Aside0.mk hc0_1
 clear hr0_1 hc0_1
 have HR0_2 := Aside0.mk hr0_2
 have HC0_2 := Aside0.mk hc0_2
 clear hr0_2 hc0_2
 have HB := Aside0.mk (Below.refl w.heap.size w)
 have H : ((laws_szProgram.f k l0_0 l0_1 l0_2 1048576).bind fun t442 => (if t442 < 0 then (some true) else ((laws_toProgram.f k l0_0 l0_1 l0_2).bind fun bt443 => ((spec_DeepOf.f k bt443.1 bt443.2.1 bt443.2.2 a1).bind fun t452 => ((laws_toProgram.f k l0_0 l0_1 l0_2).bind fun bt453 => ((impl_DeepOf.f k bt453.1 bt453.2.1 bt453.2.2 a1).bind fun t463 => (if t463 = t452 then ((laws_toProgram.f k l0_0 l0_1 l0_2).bind fun bt464 => ((laws_eqProgram.f k bt453.1 bt453.2.1 bt453.2.2 bt464.1 bt464.2.1 bt464.2.2).bind fun t473 => (if t473 = true then (some true) else (some false)))) else (some false)))))))) = some r := h
 clear h
 obtain ⟨t442, A3, H⟩ := Bo_ H
 by_cases c4 : t442 < 0
 ·rw [if_pos c4] at H
  have c4b0 := decide_eq_true c4
  clear c4
  obtain rfl := Option.some.inj H
  go_enter Try.func7, Try.ntmps7
  go_wp2_with (first | (refine Bv_ 2 #[.slice A0_0 l0_0.length c0_0, .slice A0_1 l0_1.length c0_1, .slice A0_2 l0_2.length c0_2] 26 ?_; intro gb441 hg w5 BK441 hb; have GW441 := Hg_ HB hg; replace HB := Hs_ HB hb; clear hb hg; obtain ⟨hcz6_0, hcz6_1, hcz6_2, hfz6_0, hfz6_1, hfz6_2⟩ := Bc3_ BK441) | (refine Gl_ (some 11) Try.func13 ((laws_szProgram.calls k _ _ l0_0 _ _ l0_1 _ _ l0_2 1048576 t442 _ (Sc_ HR0_0 HB) HC0_0.out (Sc_ HR0_1 HB) HC0_1.out (Sc_ HR0_2 HB) HC0_2.out A3.out).mono ?_); rintro e w7 ⟨rfl, hb⟩; refine ⟨_, rfl, ?_⟩; replace BK441 := Bb_ BK441 hb; replace HB := Hs_ HB hb; clear hb))
  go_ret
  exact ⟨Re_, Hf_ HB⟩
 ·rw [if_neg c4] at H
  have c4b0 := decide_eq_false c4
  clear c4
  obtain ⟨⟨t443, t446, t449⟩, A8, H⟩ := Bo_ H
  try dsimp only at H
  obtain ⟨t452, A9, H⟩ := Bo_ H
  obtain ⟨⟨t453, t456, t459⟩, A10, H⟩ := Bo_ H
  try dsimp only at H
  obtain ⟨t463, A11, H⟩ := Bo_ H
  by_cases c12 : t463 = t452
  ·rw [if_pos c12] at H
   have c12b0 := beq_iff_eq.mpr c12
   have c12b1 := bne_eq_false_iff_eq.mpr c12
   clear c12
   obtain ⟨⟨t464, t467, t470⟩, A13, H⟩ := Bo_ H
   try dsimp only at H
   obtain ⟨t473, A14, H⟩ := Bo_ H
   by_cases c15 : t473 = true
   ·subst c15
    rw [if_pos rfl] at H
    obtain rfl := Option.some.inj H
    go_enter Try.func7, Try.ntmps7
    try go_wp2_with (first | (refine Bv_ 2 #[.slice A0_0 l0_0.length c0_0, .slice A0_1 l0_1.length c0_1, .slice A0_2 l0_2.length c0_2] 26 ?_; intro gb441 hg w16 BK441 hb; have GW441 := Hg_ HB hg; replace HB := Hs_ HB hb; clear hb hg; obtain ⟨hcz17_0, hcz17_1, hcz17_2, hfz17_0, hfz17_1, hfz17_2⟩ := Bc3_ BK441) | (refine Gl_ (some 11) Try.func13 ((laws_szProgram.calls k _ _ l0_0 _ _ l0_1 _ _ l0_2 1048576 t442 _ (Sc_ HR0_0 HB) HC0_0.out (Sc_ HR0_1 HB) HC0_1.out (Sc_ HR0_2 HB) HC0_2.out A3.out).mono ?_); rintro e w18 ⟨rfl, hb⟩; refine ⟨_, rfl, ?_⟩; replace BK441 := Bb_ BK441 hb; replace HB := Hs_ HB hb; clear hb; obtain ⟨hcz19_0, hcz19_1, hcz19_2, hfz19_0, hfz19_1, hfz19_2⟩ := Bc3_ BK441) | (refine Gl_ (some 15) Try.func16 ((laws_toProgram.calls k _ _ l0_0 _ _ l0_1 _ _ l0_2 t443 t446 t449 _ (Sc_ HR0_0 HB) HC0_0.out (Sc_ HR0_1 HB) HC0_1.out (Sc_ HR0_2 HB) HC0_2.out A8.out).mono ?_); rintro e w20 ⟨v444, v447, v450, rfl, ho0, ho1, ho2, hb⟩; refine ⟨_, rfl, ?_⟩; have HO445 := Aside0.mk (Kd.S_lower ho0 (below_size (Hf_ HB))); have HO448 := Aside0.mk (Kd.S_lower ho1 (below_size (Hf_ HB))); have HO451 := Aside0.mk (Kd.S_lower ho2 (below_size (Hf_ HB))); replace BK441 := Bb_ BK441 hb; replace HB := Hs_ HB hb; clear hb; (try clear ho0); (try clear ho1); (try clear ho2); obtain ⟨Ao21, co21, eo21⟩ := Kd.S_slice HO445.out; subst eo21; obtain ⟨Ao22, co22, eo22⟩ := Kd.S_slice HO448.out; subst eo22; obtain ⟨Ao23, co23, eo23⟩ := Kd.S_slice HO451.out; subst eo23) | (refine Gl_ (some 17) Try.func37 ((spec_DeepOf.calls k _ _ t443 _ _ t446 _ _ t449 a1 t452 _ (Cq_ (Kd.S_reads' HO445.out).2.2) ((Kd.S_reads' HO445.out).2.1) (Cq_ (Kd.S_reads' HO448.out).2.2) ((Kd.S_reads' HO448.out).2.1) (Cq_ (Kd.S_reads' HO451.out).2.2) ((Kd.S_reads' HO451.out).2.1) A9.out).mono ?_); rintro e w24 ⟨rfl, hb⟩; refine ⟨_, rfl, ?_⟩; replace HO445 := Sb_ HO445 hb; replace HO448 := Sb_ HO448 hb; replace HO451 := Sb_ HO451 hb; replace BK441 := Bb_ BK441 hb; replace HB := Hs_ HB hb; clear hb; obtain ⟨hcz25_0, hcz25_1, hcz25_2, hfz25_0, hfz25_1, hfz25_2⟩ := Bc3_ BK441) | (refine Gl_ (some 19) Try.func16 ((laws_toProgram.calls k _ _ l0_0 _ _ l0_1 _ _ l0_2 t453 t456 t459 _ (Sc_ HR0_0 HB) HC0_0.out (Sc_ HR0_1 HB) HC0_1.out (Sc_ HR0_2 HB) HC0_2.out A10.out).mono ?_); rintro e w26 ⟨v454, v457, v460, rfl, ho0, ho1, ho2, hb⟩; refine ⟨_, rfl, ?_⟩; have HO455 := Aside0.mk (Kd.S_lower (Kd.S_new' ho0 (Kd.S_lt (by (with_reducible repeat (first | apply Kd.S_alloc | apply Kd.S_drewN | apply Kd.S_drew)); exact HO445.out))) (below_size (Hf_ HB))); have HO458 := Aside0.mk (Kd.S_lower (Kd.S_new' ho1 (Kd.S_lt (by (with_reducible repeat (first | apply Kd.S_alloc | apply Kd.S_drewN | apply Kd.S_drew)); exact HO448.out))) (below_size (Hf_ HB))); have HO461 := Aside0.mk (Kd.S_lower (Kd.S_new' ho2 (Kd.S_lt (by (with_reducible repeat (first | apply Kd.S_alloc | apply Kd.S_drewN | apply Kd.S_drew)); exact HO451.out))) (below_size (Hf_ HB))); replace HO445 := Aside0.mk (Kd.S_elder' (by (with_reducible repeat (first | apply Kd.S_alloc | apply Kd.S_drewN | apply Kd.S_drew)); exact HO445.out) (Kd.S_base ho0) hb); replace HO448 := Aside0.mk (Kd.S_elder' (by (with_reducible repeat (first | apply Kd.S_alloc | apply Kd.S_drewN | apply Kd.S_drew)); exact HO448.out) (Kd.S_base ho1) hb); replace HO451 := Aside0.mk (Kd.S_elder' (by (with_reducible repeat (first | apply Kd.S_alloc | apply Kd.S_drewN | apply Kd.S_drew)); exact HO451.out) (Kd.S_base ho2) hb); replace BK441 := Bb_ BK441 hb; replace HB := Hs_ HB hb; clear hb; (try clear ho0); (try clear ho1); (try clear ho2)) | (refine Bv_ 7 #[.slice none 0 0, .slice none 0 0, .slice none 0 0] 40 ?_; intro gb462 hg w27 BK462 hb; have GW462 := Hg_ HB hg; have NB441_462 := Bl_ BK441 hg; have NB462_441 := Bm_ NB441_462; replace HO445 := Sb_ HO445 hb; replace HO448 := Sb_ HO448 hb; replace HO451 := Sb_ HO451 hb; replace HO455 := Sb_ HO455 hb; replace HO458 := Sb_ HO458 hb; replace HO461 := Sb_ HO461 hb; replace BK441 := Bb_ BK441 hb; replace HB := Hs_ HB hb; clear hb hg; obtain ⟨Ao28, co28, eo28⟩ := Kd.S_slice HO455.out; subst eo28; have hnb29 := NB462_441.out; have hnc29 := NB441_462.out; obtain ⟨hcz30_0, hcz30_1, hcz30_2, hfz30_0, hfz30_1, hfz30_2⟩ := Bc3_ BK462; obtain ⟨Ao31, co31, eo31⟩ := Kd.S_slice HO458.out; subst eo31; obtain ⟨Ao32, co32, eo32⟩ := Kd.S_slice HO461.out; subst eo32) | ((with_reducible refine gate_callee (f := 38) rfl ?_); refine goesL_ (some 22) rfl rfl Try.func38 (by kernel_rfl) rfl #[.agg #[.slice Ao28 t453.length co28, .slice Ao31 t456.length co31, .slice Ao32 t459.length co32], .int .i64 a1] rfl Mp_ ?_; (with_reducible refine (impl_DeepOf.calls k _ _ t453 _ _ t456 _ _ t459 a1 t463 _ ?side1 ?side2 ?side3 ?side4 ?side5 ?side6 A11.out).mono ?_); (case side1 => refine (Kd.S_reads' (e := 77) (base := w.heap.size) (ok := fun k_ => (True ∧ some k_ ≠ (.slice Ao21 t443.length co21 : Value).ownBlock)) (n := t453.length) (c := co28) ?_).2.2; exact (by (with_reducible repeat (first | apply Kd.S_alloc | apply Kd.S_drewN | apply Kd.S_drew)); exact (Kd.S_mono (Kd.S_far (p := ⟨gb462, 2, none⟩) (Kd.S_far (p := ⟨gb462, 1, none⟩) (Kd.S_far (p := ⟨gb462, 0, none⟩) (Kd.S_types HO455.out BK462.out (by decide)) (fun _ hk => hk.2) (.slice Ao28 t453.length co28)) (fun _ hk => hk.2) (.slice Ao31 t456.length co31)) (fun _ hk => hk.2) (.slice Ao32 t459.length co32)) (fun _ h_ => h_.1)))); (case side2 => exact (Kd.S_reads' HO455.out).2.1); (case side3 => refine (Kd.S_reads' (e := 106) (base := w.heap.size) (ok := fun k_ => (True ∧ some k_ ≠ (.slice Ao22 t446.length co22 : Value).ownBlock)) (n := t456.length) (c := co31) ?_).2.2; exact (by (with_reducible repeat (first | apply Kd.S_alloc | apply Kd.S_drewN | apply Kd.S_drew)); exact (Kd.S_mono (Kd.S_far (p := ⟨gb462, 2, none⟩) (Kd.S_far (p := ⟨gb462, 1, none⟩) (Kd.S_far (p := ⟨gb462, 0, none⟩) (Kd.S_types HO458.out BK462.out (by decide)) (fun _ hk => hk.2) (.slice Ao28 t453.length co28)) (fun _ hk => hk.2) (.slice Ao31 t456.length co31)) (fun _ hk => hk.2) (.slice Ao32 t459.length co32)) (fun _ h_ => h_.1)))); (case side4 => exact (Kd.S_reads' HO458.out).2.1); (case side5 => refine (Kd.S_reads' (e := 103) (base := w.heap.size) (ok := fun k_ => (True ∧ some k_ ≠ (.slice Ao23 t449.length co23 : Value).ownBlock)) (n := t459.length) (c := co32) ?_).2.2; exact (by (with_reducible repeat (first | apply Kd.S_alloc | apply Kd.S_drewN | apply Kd.S_drew)); exact (Kd.S_mono (Kd.S_far (p := ⟨gb462, 2, none⟩) (Kd.S_far (p := ⟨gb462, 1, none⟩) (Kd.S_far (p := ⟨gb462, 0, none⟩) (Kd.S_types HO461.out BK462.out (by decide)) (fun _ hk => hk.2) (.slice Ao28 t453.length co28)) (fun _ hk => hk.2) (.slice Ao31 t456.length co31)) (fun _ hk => hk.2) (.slice Ao32 t459.length co32)) (fun _ h_ => h_.1)))); (case side6 => exact (Kd.S_reads' HO461.out).2.1); rintro e w33 ⟨rfl, hb⟩; refine ⟨_, rfl, ?_⟩; replace HO445 := Aside0.mk (Kd.S_below (by (with_reducible repeat (first | apply Kd.S_alloc | apply Kd.S_drewN | apply Kd.S_drew)); exact (Kd.S_mono (Kd.S_far (p := ⟨gb462, 2, none⟩) (Kd.S_far (p := ⟨gb462, 1, none⟩) (Kd.S_far (p := ⟨gb462, 0, none⟩) (Kd.S_types HO445.out BK462.out (by decide)) (fun _ hk => hk.2) (.slice Ao28 t453.length co28)) (fun _ hk => hk.2) (.slice Ao31 t456.length co31)) (fun _ hk => hk.2) (.slice Ao32 t459.length co32)) (fun _ h_ => h_.1))) hb); replace HO448 := Aside0.mk (Kd.S_below (by (with_reducible repeat (first | apply Kd.S_alloc | apply Kd.S_drewN | apply Kd.S_drew)); exact (Kd.S_mono (Kd.S_far (p := ⟨gb462, 2, none⟩) (Kd.S_far (p := ⟨gb462, 1, none⟩) (Kd.S_far (p := ⟨gb462, 0, none⟩) (Kd.S_types HO448.out BK462.out (by decide)) (fun _ hk => hk.2) (.slice Ao28 t453.length co28)) (fun _ hk => hk.2) (.slice Ao31 t456.length co31)) (fun _ hk => hk.2) (.slice Ao32 t459.length co32)) (fun _ h_ => h_.1))) hb); replace HO451 := Aside0.mk (Kd.S_below (by (with_reducible repeat (first | apply Kd.S_alloc | apply Kd.S_drewN | apply Kd.S_drew)); exact (Kd.S_mono (Kd.S_far (p := ⟨gb462, 2, none⟩) (Kd.S_far (p := ⟨gb462, 1, none⟩) (Kd.S_far (p := ⟨gb462, 0, none⟩) (Kd.S_types HO451.out BK462.out (by decide)) (fun _ hk => hk.2) (.slice Ao28 t453.length co28)) (fun _ hk => hk.2) (.slice Ao31 t456.length co31)) (fun _ hk => hk.2) (.slice Ao32 t459.length co32)) (fun _ h_ => h_.1))) hb); replace HO455 := Aside0.mk (Kd.S_below (by (with_reducible repeat (first | apply Kd.S_alloc | apply Kd.S_drewN | apply Kd.S_drew)); exact (Kd.S_mono (Kd.S_far (p := ⟨gb462, 2, none⟩) (Kd.S_far (p := ⟨gb462, 1, none⟩) (Kd.S_far (p := ⟨gb462, 0, none⟩) (Kd.S_types HO455.out BK462.out (by decide)) (fun _ hk => hk.2) (.slice Ao28 t453.length co28)) (fun _ hk => hk.2) (.slice Ao31 t456.length co31)) (fun _ hk => hk.2) (.slice Ao32 t459.length co32)) (fun _ h_ => h_.1))) hb); replace HO458 := Aside0.mk (Kd.S_below (by (with_reducible repeat (first | apply Kd.S_alloc | apply Kd.S_drewN | apply Kd.S_drew)); exact (Kd.S_mono (Kd.S_far (p := ⟨gb462, 2, none⟩) (Kd.S_far (p := ⟨gb462, 1, none⟩) (Kd.S_far (p := ⟨gb462, 0, none⟩) (Kd.S_types HO458.out BK462.out (by decide)) (fun _ hk => hk.2) (.slice Ao28 t453.length co28)) (fun _ hk => hk.2) (.slice Ao31 t456.length co31)) (fun _ hk => hk.2) (.slice Ao32 t459.length co32)) (fun _ h_ => h_.1))) hb); replace HO461 := Aside0.mk (Kd.S_below (by (with_reducible repeat (first | apply Kd.S_alloc | apply Kd.S_drewN | apply Kd.S_drew)); exact (Kd.S_mono (Kd.S_far (p := ⟨gb462, 2, none⟩) (Kd.S_far (p := ⟨gb462, 1, none⟩) (Kd.S_far (p := ⟨gb462, 0, none⟩) (Kd.S_types HO461.out BK462.out (by decide)) (fun _ hk => hk.2) (.slice Ao28 t453.length co28)) (fun _ hk => hk.2) (.slice Ao31 t456.length co31)) (fun _ hk => hk.2) (.slice Ao32 t459.length co32)) (fun _ h_ => h_.1))) hb); replace BK441 := Aside0.mk (blk_below (g := gb441) (o := .cells #[.slice A0_0 l0_0.length c0_0, .slice A0_1 l0_1.length c0_1, .slice A0_2 l0_2.length c0_2] 26 (0, 0)) (by (with_reducible repeat (first | refine blk_drewN ?_ _ | refine blk_drew ?_ | refine blk_alloc ?_ _)); refine blk_far ?_ NB441_462.out _; (with_reducible repeat (first | refine blk_drewN ?_ _ | refine blk_drew ?_ | refine blk_alloc ?_ _)); refine blk_far ?_ NB441_462.out _; (with_reducible repeat (first | refine blk_drewN ?_ _ | refine blk_drew ?_ | refine blk_alloc ?_ _)); refine blk_far ?_ NB441_462.out _; (with_reducible repeat (first | refine blk_drewN ?_ _ | refine blk_drew ?_ | refine blk_alloc ?_ _)); exact BK441.out) hb); replace BK462 := Aside0.mk (blk_below (g := gb462) (o := .cells #[.slice Ao28 t453.length co28, .slice Ao31 t456.length co31, .slice Ao32 t459.length co32] 40 (0, 0)) (by (with_reducible repeat (first | refine blk_drewN ?_ _ | refine blk_drew ?_ | refine blk_alloc ?_ _)); refine blk_put (cs := #[.slice Ao28 t453.length co28, .slice Ao31 t456.length co31, .slice none 0 0]) ?_ 2 _ rfl; (with_reducible repeat (first | refine blk_drewN ?_ _ | refine blk_drew ?_ | refine blk_alloc ?_ _)); refine blk_put (cs := #[.slice Ao28 t453.length co28, .slice none 0 0, .slice none 0 0]) ?_ 1 _ rfl; (with_reducible repeat (first | refine blk_drewN ?_ _ | refine blk_drew ?_ | refine blk_alloc ?_ _)); refine blk_put (cs := #[.slice none 0 0, .slice none 0 0, .slice none 0 0]) ?_ 0 _ rfl; (with_reducible repeat (first | refine blk_drewN ?_ _ | refine blk_drew ?_ | refine blk_alloc ?_ _)); exact BK462.out) hb); replace HB := Hs_ HB hb; clear hb))
    replace HO445 := Aside0.mk (Kd.S_drew HO445.out); replace HO448 := Aside0.mk (Kd.S_drew HO448.out); replace HO451 := Aside0.mk (Kd.S_drew HO451.out); replace HO455 := Aside0.mk (Kd.S_drew HO455.out); replace HO458 := Aside0.mk (Kd.S_drew HO458.out); replace HO461 := Aside0.mk (Kd.S_drew HO461.out); replace BK441 := Aside0.mk (blk_drew BK441.out); replace BK462 := Aside0.mk (blk_drew BK462.out); replace HB := Aside0.mk (below_drew1 HB.out)
    refine start_ (n := 5) (S := fun w' => w'.cell? ⟨gb462, 0, none⟩ = some (.slice Ao28 t453.length co28) ∧ w'.cell? ⟨gb462, 1, none⟩ = some (.slice Ao31 t456.length co31) ∧ w'.cell? ⟨gb462, 2, none⟩ = some (.slice Ao32 t459.length co32) ∧ w'.cell? ⟨gb441, 0, none⟩ = some (.slice A0_0 l0_0.length c0_0) ∧ w'.cell? ⟨gb441, 1, none⟩ = some (.slice A0_1 l0_1.length c0_1) ∧ w'.cell? ⟨gb441, 2, none⟩ = some (.slice A0_2 l0_2.length c0_2)) (ds := []) #[false, false, false, false, false] (by kernel_rfl) rfl rfl ⟨(blk_cell BK462.out 0).trans rfl, (blk_cell BK462.out 1).trans rfl, (blk_cell BK462.out 2).trans rfl, (blk_cell BK441.out 0).trans rfl, (blk_cell BK441.out 1).trans rfl, (blk_cell BK441.out 2).trans rfl⟩ (fun hHeld => ?_)
    generalize w33.drew = w34 at HO445 HO448 HO451 HO455 HO458 HO461 BK441 BK462 HB hHeld ⊢
    refine take_ (i := 0) (N := some 26) (v := ?_) (a' := ?_) #[true, false, false, false, false] rfl rfl (by kernel_rfl) (fun _ _ _ h => h) (Or.inl ⟨by rfl, ?_⟩) hHeld ?_ ?_
    rotate_left
    ·rintro w' ⟨s0, s1, s2, s3, s4, s5⟩
     go_simp
     with_reducible rfl
    rotate_left
    ·simp only [Act.put, List.setIfInBounds_toArray, List.set_cons_zero, List.set_cons_succ, i64_w, i32_w]
     rfl
    refine take_ (i := 1) (N := some 27) (v := ?_) (a' := ?_) #[true, true, false, false, false] rfl rfl (by kernel_rfl) (fun _ _ _ h => h) (Or.inl ⟨by rfl, ?_⟩) hHeld ?_ ?_
    rotate_left
    ·rintro w' ⟨s0, s1, s2, s3, s4, s5⟩
     go_simp
     with_reducible rfl
    rotate_left
    ·simp only [Act.put, List.setIfInBounds_toArray, List.set_cons_zero, List.set_cons_succ, i64_w, i32_w]
     rfl
    refine one_ (i := 2) (N := some 28) #[true, true, true, false, false] rfl rfl (by kernel_rfl) (by decide) (fun K hK => ?_)
    refine Gs_ Try.func16 ((laws_toProgram.calls k _ _ l0_0 _ _ l0_1 _ _ l0_2 t464 t467 t470 _ (Sc_ HR0_0 HB) HC0_0.out (Sc_ HR0_1 HB) HC0_1.out (Sc_ HR0_2 HB) HC0_2.out A13.out).mono ?_)
    rintro e w35 ⟨v465, v468, v471, rfl, ho0, ho1, ho2, hb⟩
    refine ⟨_, rfl, ?_⟩
    have HO466 := Aside0.mk (Kd.S_lower (Kd.S_new' (Kd.S_new' ho0 (Kd.S_lt (by (with_reducible repeat (first | apply Kd.S_alloc | apply Kd.S_drewN | apply Kd.S_drew)); exact HO445.out))) (Kd.S_lt (by (with_reducible repeat (first | apply Kd.S_alloc | apply Kd.S_drewN | apply Kd.S_drew)); exact HO455.out))) (below_size (Hf_ HB))); have HO469 := Aside0.mk (Kd.S_lower (Kd.S_new' (Kd.S_new' ho1 (Kd.S_lt (by (with_reducible repeat (first | apply Kd.S_alloc | apply Kd.S_drewN | apply Kd.S_drew)); exact HO448.out))) (Kd.S_lt (by (with_reducible repeat (first | apply Kd.S_alloc | apply Kd.S_drewN | apply Kd.S_drew)); exact HO458.out))) (below_size (Hf_ HB))); have HO472 := Aside0.mk (Kd.S_lower (Kd.S_new' (Kd.S_new' ho2 (Kd.S_lt (by (with_reducible repeat (first | apply Kd.S_alloc | apply Kd.S_drewN | apply Kd.S_drew)); exact HO451.out))) (Kd.S_lt (by (with_reducible repeat (first | apply Kd.S_alloc | apply Kd.S_drewN | apply Kd.S_drew)); exact HO461.out))) (below_size (Hf_ HB))); replace HO445 := Aside0.mk (Kd.S_elder' (by (with_reducible repeat (first | apply Kd.S_alloc | apply Kd.S_drewN | apply Kd.S_drew)); exact HO445.out) (Kd.S_base ho0) hb); replace HO448 := Aside0.mk (Kd.S_elder' (by (with_reducible repeat (first | apply Kd.S_alloc | apply Kd.S_drewN | apply Kd.S_drew)); exact HO448.out) (Kd.S_base ho1) hb); replace HO451 := Aside0.mk (Kd.S_elder' (by (with_reducible repeat (first | apply Kd.S_alloc | apply Kd.S_drewN | apply Kd.S_drew)); exact HO451.out) (Kd.S_base ho2) hb); replace HO455 := Aside0.mk (Kd.S_elder' (by (with_reducible repeat (first | apply Kd.S_alloc | apply Kd.S_drewN | apply Kd.S_drew)); exact HO455.out) (Kd.S_base ho0) hb); replace HO458 := Aside0.mk (Kd.S_elder' (by (with_reducible repeat (first | apply Kd.S_alloc | apply Kd.S_drewN | apply Kd.S_drew)); exact HO458.out) (Kd.S_base ho1) hb); replace HO461 := Aside0.mk (Kd.S_elder' (by (with_reducible repeat (first | apply Kd.S_alloc | apply Kd.S_drewN | apply Kd.S_drew)); exact HO461.out) (Kd.S_base ho2) hb); replace BK441 := Bb_ BK441 hb; replace BK462 := Bb_ BK462 hb; replace HB := Hs_ HB hb
    clear hb
    (try clear ho0)
    (try clear ho1)
    (try clear ho2)
    obtain ⟨Ao36, co36, eo36⟩ := Kd.S_slice HO466.out
    (first | subst eo36 | (injection eo36 with f1_ f2_ f3_; have f4_ := f1_.symm; have f5_ := f3_.symm; clear f1_ f2_ f3_; subst f4_; subst f5_))
    obtain ⟨Ao37, co37, eo37⟩ := Kd.S_slice HO469.out
    (first | subst eo37 | (injection eo37 with f1_ f2_ f3_; have f4_ := f1_.symm; have f5_ := f3_.symm; clear f1_ f2_ f3_; subst f4_; subst f5_))
    obtain ⟨Ao38, co38, eo38⟩ := Kd.S_slice HO472.out
    (first | subst eo38 | (injection eo38 with f1_ f2_ f3_; have f4_ := f1_.symm; have f5_ := f3_.symm; clear f1_ f2_ f3_; subst f4_; subst f5_))
    refine hK.out _ _ ⟨(blk_cell BK462.out 0).trans rfl, (blk_cell BK462.out 1).trans rfl, (blk_cell BK462.out 2).trans rfl, (blk_cell BK441.out 0).trans rfl, (blk_cell BK441.out 1).trans rfl, (blk_cell BK441.out 2).trans rfl⟩ (fun hHeld => ?_)
    clear hK K
    refine No_ (some 28) ?_
    refine one_ (i := 3) (N := some 29) #[true, true, true, true, false] rfl rfl (by kernel_rfl) (by decide) (fun K hK => ?_)
    refine Gs_ Try.func19 ((laws_eqProgram.calls k _ _ t453 _ _ t456 _ _ t459 _ _ t464 _ _ t467 _ _ t470 true _ (Cq_ (Kd.S_reads' HO455.out).2.2) ((Kd.S_reads' HO455.out).2.1) (Cq_ (Kd.S_reads' HO458.out).2.2) ((Kd.S_reads' HO458.out).2.1) (Cq_ (Kd.S_reads' HO461.out).2.2) ((Kd.S_reads' HO461.out).2.1) (Cq_ (Kd.S_reads' HO466.out).2.2) ((Kd.S_reads' HO466.out).2.1) (Cq_ (Kd.S_reads' HO469.out).2.2) ((Kd.S_reads' HO469.out).2.1) (Cq_ (Kd.S_reads' HO472.out).2.2) ((Kd.S_reads' HO472.out).2.1) A14.out).mono ?_)
    rintro e w39 ⟨rfl, hb⟩
    refine ⟨_, rfl, ?_⟩
    replace HO445 := Sb_ HO445 hb; replace HO448 := Sb_ HO448 hb; replace HO451 := Sb_ HO451 hb; replace HO455 := Sb_ HO455 hb; replace HO458 := Sb_ HO458 hb; replace HO461 := Sb_ HO461 hb; replace HO466 := Sb_ HO466 hb; replace HO469 := Sb_ HO469 hb; replace HO472 := Sb_ HO472 hb; replace BK441 := Bb_ BK441 hb; replace BK462 := Bb_ BK462 hb; replace HB := Hs_ HB hb
    clear hb
    refine hK.out _ _ ⟨(blk_cell BK462.out 0).trans rfl, (blk_cell BK462.out 1).trans rfl, (blk_cell BK462.out 2).trans rfl, (blk_cell BK441.out 0).trans rfl, (blk_cell BK441.out 1).trans rfl, (blk_cell BK441.out 2).trans rfl⟩ (fun hHeld => ?_)
    clear hK K
    refine No_ (some 29) ?_
    refine pure_ (i := 4) (N := some 30) (v := ?_) (a' := ?_) #[true, true, true, true, true] rfl rfl (by kernel_rfl) (fun _ _ _ h => h) (Or.inl ⟨by rfl, ?_⟩) ?_ ?_
    rotate_left
    ·intro w'
     go_simp
     with_reducible rfl
    rotate_left
    ·simp only [Act.put, List.setIfInBounds_toArray, List.set_cons_zero, List.set_cons_succ, i64_w, i32_w]
     rfl
    refine done_ (by kernel_rfl) ?_
    try go_wp2
    go_ret
    exact ⟨Re_, Hf_ HB⟩
   ·replace c15 := Bool.eq_false_iff.mpr c15
    subst c15
    rw [if_neg Ff_] at H
    exact absurd (Option.some.inj H) (by rw [hlaw_.out]; decide)
  ·rw [if_neg c12] at H
   have c12b0 := beq_eq_false_iff_ne.mpr c12
   have c12b1 := bne_iff_ne.mpr c12
   exact absurd (Option.some.inj H) (by rw [hlaw_.out]; decide)

end Go.Proofs.Ytmbkcbgbienjoaa.PFnExactDeepOf
