/- The machine side of the law FnExactValueOf: for each function that it reaches, a Lean function and its contract. Written by a program of this session's over the kit's print. No condition. -/
import Derived.Test.YtmbkcbgbienjoaaCmq
import Derived.Test.YtmbkcbgbienjoaaPFnExactValueOfx0
import Derived.Test.YtmbkcbgbienjoaaPFnExactValueOfx7
import Derived.Test.YtmbkcbgbienjoaaPFnExactValueOfx11
namespace Go.Proofs.Ytmbkcbgbienjoaa.PFnExactValueOf
open Go.RowKit Go.Proofs.YtmbkcbgbienjoaaW.PrintWords Go.Proofs.YtmbkcbgbienjoaaW.PrintLast Go.Proofs.YtmbkcbgbienjoaaW.PrintMore Go.Proofs.Ytmbkcbgbienjoaa.Cmp
attribute [local go_sem] max2_int min2_int max_two min_two max_three min_three max_four min_four   -- for this text's walks alone
set_option linter.unusedVariables false
set_option maxHeartbeats 8000000
set_option maxRecDepth 100000
set_option linter.unusedSimpArgs false

/-! ### spec_l05Deeps: function 83 -/
mutual
def spec_l05Deeps.l0 : Nat → List Int → Int → List (S77) → List (S106) → List (S103) → Option (List Int)
 | 0, _, _, _, _, _ => none
 | k + 1, x3, x4, x316000, x316001, x316002 => if x4 < (x316000.length : Int) then ((spec_NodeOk.f k x316000 x316001 x316002 x4).bind fun t319 => (if t319 = true then (spec_l05Deeps.l1 k x3 x4 1 0 x316000 x316001 x316002) else (if 0 > 10 then (if x3.length < 17592186044416 then (spec_l05Deeps.l0 k (x3 ++ [0]) (wrap64 (x4 + 1)) x316000 x316001 x316002) else (none)) else (if x4 > 0 then (if 0 ≤ (wrap64 (x4 - 1)) then (if (wrap64 (x4 - 1)) < (x3.length : Int) then (if (rd x3 (wrap64 (x4 - 1))) = 0 then (if x3.length < 17592186044416 then (spec_l05Deeps.l0 k (x3 ++ [0]) (wrap64 (x4 + 1)) x316000 x316001 x316002) else (none)) else (if x3.length < 17592186044416 then (spec_l05Deeps.l0 k (x3 ++ [0]) (wrap64 (x4 + 1)) x316000 x316001 x316002) else (none))) else (none)) else (none)) else (if x3.length < 17592186044416 then (spec_l05Deeps.l0 k (x3 ++ [0]) (wrap64 (x4 + 1)) x316000 x316001 x316002) else (none)))))) else (some x3)
def spec_l05Deeps.l1 : Nat → List Int → Int → Int → Int → List (S77) → List (S106) → List (S103) → Option (List Int)
 | 0, _, _, _, _, _, _, _ => none
 | k + 1, x3, x4, x5, x6, x316000, x316001, x316002 => if 0 ≤ x4 then (if x4 < (x316000.length : Int) then (if x6 < (((rd_T77 x316000 x4).f5).length : Int) then (if 0 ≤ x6 then (if 0 ≤ (rd ((rd_T77 x316000 x4).f5) x6) then (if (rd ((rd_T77 x316000 x4).f5) x6) < (x3.length : Int) then (if (wrap64 ((rd x3 (rd ((rd_T77 x316000 x4).f5) x6)) + 1)) > x5 then (spec_l05Deeps.l1 k x3 x4 (wrap64 ((rd x3 (rd ((rd_T77 x316000 x4).f5) x6)) + 1)) (wrap64 (x6 + 1)) x316000 x316001 x316002) else (spec_l05Deeps.l1 k x3 x4 x5 (wrap64 (x6 + 1)) x316000 x316001 x316002)) else (none)) else (none)) else (none)) else (if x5 > 10 then (if x3.length < 17592186044416 then (spec_l05Deeps.l0 k (x3 ++ [0]) (wrap64 (x4 + 1)) x316000 x316001 x316002) else (none)) else (if x4 > 0 then (if 0 ≤ (wrap64 (x4 - 1)) then (if (wrap64 (x4 - 1)) < (x3.length : Int) then (if (rd x3 (wrap64 (x4 - 1))) = 0 then (if x3.length < 17592186044416 then (spec_l05Deeps.l0 k (x3 ++ [0]) (wrap64 (x4 + 1)) x316000 x316001 x316002) else (none)) else (if x3.length < 17592186044416 then (spec_l05Deeps.l0 k (x3 ++ [x5]) (wrap64 (x4 + 1)) x316000 x316001 x316002) else (none))) else (none)) else (none)) else (if x3.length < 17592186044416 then (spec_l05Deeps.l0 k (x3 ++ [x5]) (wrap64 (x4 + 1)) x316000 x316001 x316002) else (none))))) else (none)) else (none)
end
def spec_l05Deeps.f (k : Nat) (l0_0 : List (S77)) (l0_1 : List (S106)) (l0_2 : List (S103)) : Option (List Int) := spec_l05Deeps.l0 k (([] : List Int)) 0 l0_0 l0_1 l0_2
theorem spec_l05Deeps.calls (k : Nat) (A0_0 : Option Addr) (c0_0 : Nat) (l0_0 : List (S77)) (A0_1 : Option Addr) (c0_1 : Nat) (l0_1 : List (S106)) (A0_2 : Option Addr) (c0_2 : Nat) (l0_2 : List (S103)) (r : List Int) (w : World) (hr0_0 : Kd.C k77 w A0_0 l0_0.length l0_0) (hc0_0 : l0_0.length ≤ c0_0) (hr0_1 : Kd.C k106 w A0_1 l0_1.length l0_1) (hc0_1 : l0_1.length ≤ c0_1) (hr0_2 : Kd.C k103 w A0_2 l0_2.length l0_2) (hc0_2 : l0_2.length ≤ c0_2) (h : spec_l05Deeps.f k l0_0 l0_1 l0_2 = some r) :
  Calls Try.prog 83 #[.agg #[.slice A0_0 l0_0.length c0_0, .slice A0_1 l0_1.length c0_1, .slice A0_2 l0_2.length c0_2]] w fun e w' => ∃ v0_ : Value, e = .returned (v0_) ∧ Kd.R (Kd.int .i64) 3 w' w.heap.size (fun _ => True) v0_ r ∧ Below w.heap.size w w' := by
 have hu40 := Try.underlying40
 have HR0_0 := Aside0.mk hr0_0
 have HC0_0 := Aside0.mk hc0_0
 clear hr0_0 hc0_0
 have HR0_1 := Aside0.mk hr0_1
 have HC0_1 := Aside0.mk hc0_1
 clear hr0_1 hc0_1
 have HR0_2 := Aside0.mk hr0_2
 have HC0_2 := Aside0.mk hc0_2
 clear hr0_2 hc0_2
 have HB := Aside0.mk (Below.refl w.heap.size w)
 have H : (spec_l05Deeps.l0 k (([] : List Int)) 0 l0_0 l0_1 l0_2) = some r := h
 clear h
 obtain ⟨y316, hy316⟩ : ∃ y_ : List Int, y_ = (([] : List Int)) := ⟨_, rfl⟩
 replace H : (spec_l05Deeps.l0 k y316 0 l0_0 l0_1 l0_2) = some r := by first | (rw [hy316]; with_reducible exact H) | (have H2_ := (Option.bind_some _ _).symm.trans H; rw [hy316]; with_reducible exact H2_) | (have H2_ := (Option.bind_some _ _).symm.trans H; with_reducible exact H2_) | with_reducible exact H | (rw [hy316]; exact H) | exact H
 have Ny316 := Aside0.mk hy316
 clear hy316
 have H' := Aside0.mk H
 clear H
 go_enter Try.func83, Try.ntmps83
 go_wp2_with (first | (refine Bv_ 1 #[.slice A0_0 l0_0.length c0_0, .slice A0_1 l0_1.length c0_1, .slice A0_2 l0_2.length c0_2] 40 ?_; intro gb315 hg w2 BK315 hb; have GW315 := Hg_ HB hg; replace HB := Hs_ HB hb; clear hb hg) | ((with_reducible refine gate_dst (N := 7) rfl ?_); refine Kd.R_lit (Kd.int .i64) _ 3 ?hg (N := 7) ?hd (xs := ([] : List Int)) (inner := []) (ok := fun _ => True) (okp := fun _ => True) ?hr ?hp (fun _ hk => hk) trivial (Below.refl _ _) (Nat.le_refl _) (by simp) ?_; (case hd => rfl); (case hg => rfl); (case hr => first | (go_simp; done) | (go_simp; rfl)); (case hp => exact (Reps.none _ _)); intro v317 w3 ho4 hb hg_ hnew_; clear hg_ hnew_; (first | rw [← Ny316.out] at ho4 | (simp only [Int.reduceToNat] at ho4; rw [← Ny316.out] at ho4)); have HO318 := Aside0.mk (Kd.R_lower ho4 (below_size (Hf_ HB))); replace BK315 := Bb_ BK315 hb; replace HB := Hs_ HB hb; clear hb ho4))
 go_loopg [3, 4] k (fun kq v3 v4 w' => ∃ (x3_1 : List Int) (x4_1 : Int), v4 = .int .i64 x4_1 ∧ Aside0 (spec_l05Deeps.l0 kq x3_1 x4_1 l0_0 l0_1 l0_2 = some r) ∧ Aside0 (kq ≤ k) ∧ Aside0 (Kd.R (Kd.int .i64) 3 w' w.heap.size (fun _ => True) v3 x3_1) ∧ Aside0 (w'.heap[gb315]? = some (.cells #[(.slice A0_0 l0_0.length c0_0), (.slice A0_1 l0_1.length c0_1), (.slice A0_2 l0_2.length c0_2)] 40 (0, 0))) ∧ Aside0 (Below w.heap.size w w'))
 case atStart => exact ⟨(y316), (0), Rr_, H', ⟨Nat.le_refl _⟩, ⟨Rq_ HO318⟩, ⟨Bq_ BK315⟩, ⟨Hf_ HB⟩⟩
 case round =>
  clear H'
  obtain ⟨x3_1, x4_1, rfl, HA, HK1, HO_3, BK315, HB⟩ := hrel
  cases gk with
  | zero => exact absurd HA.out (by simp [spec_l05Deeps.l0])
  | succ k1 =>
   have H := HA.out
   clear HA
   simp only [spec_l05Deeps.l0] at H
   by_cases c5 : x4_1 < (l0_0.length : Int)
   ·rw [if_pos c5] at H
    have c5b0 := decide_eq_true c5
    clear c5
    obtain ⟨t319, A6, H⟩ := Bo_ H
    by_cases c7 : t319 = true
    ·subst c7
     rw [if_pos rfl] at H
     have H' := Aside0.mk H
     clear H
     obtain ⟨hcz8_0, hcz8_1, hcz8_2, hfz8_0, hfz8_1, hfz8_2⟩ := Bc3_ BK315
     go_wp2_with (first | (refine Gl_ (some 17) Try.func35 ((spec_NodeOk.calls k1 _ _ l0_0 _ _ l0_1 _ _ l0_2 x4_1 true _ (Sc_ HR0_0 HB) HC0_0.out (Sc_ HR0_1 HB) HC0_1.out (Sc_ HR0_2 HB) HC0_2.out A6.out).mono ?_); rintro e w9 ⟨rfl, hb⟩; refine ⟨_, rfl, ?_⟩; replace HO_3 := Rb_ HO_3 hb; replace BK315 := Bb_ BK315 hb; replace HB := Hs_ HB hb; clear hb))
     go_loopg [5, 6] k1 (fun kq v5 v6 w' => ∃ (x5_2 : Int) (x6_2 : Int), v5 = .int .i64 x5_2 ∧ v6 = .int .i64 x6_2 ∧ Aside0 (spec_l05Deeps.l1 kq x3_1 x4_1 x5_2 x6_2 l0_0 l0_1 l0_2 = some r) ∧ Aside0 (kq ≤ k1) ∧ Aside0 (Kd.R (Kd.int .i64) 3 w' w.heap.size (fun _ => True) u3 x3_1) ∧ Aside0 (w'.heap[gb315]? = some (.cells #[(.slice A0_0 l0_0.length c0_0), (.slice A0_1 l0_1.length c0_1), (.slice A0_2 l0_2.length c0_2)] 40 (0, 0))) ∧ Aside0 (Below w.heap.size w w'))
     case atStart => exact ⟨(1), (0), Rr_, Rr_, H', ⟨Nat.le_refl _⟩, ⟨Rq_ HO_3⟩, ⟨Bq_ BK315⟩, ⟨Hf_ HB⟩⟩
     case round =>
      clear H'
      clear c5b0 hcz8_0 hcz8_1 hcz8_2 hfz8_0 hfz8_1 hfz8_2
      obtain ⟨x5_2, x6_2, rfl, rfl, HA, HK2, HO_3, BK315, HB⟩ := hrel
      cases gk with
      | zero => exact absurd HA.out (by simp [spec_l05Deeps.l1])
      | succ k2 =>
       have H := HA.out
       clear HA
       simp only [spec_l05Deeps.l1] at H
       by_cases c10 : 0 ≤ x4_1
       ·rw [if_pos c10] at H
        have c10b0 := decide_eq_true c10
        clear c10
        by_cases c11 : x4_1 < (l0_0.length : Int)
        ·rw [if_pos c11] at H
         have c11b0 := decide_eq_true c11
         clear c11
         by_cases c12 : x6_2 < (((rd_T77 l0_0 x4_1).f5).length : Int)
         ·rw [if_pos c12] at H
          have c12b0 := decide_eq_true c12
          clear c12
          by_cases c13 : 0 ≤ x6_2
          ·rw [if_pos c13] at H
           have c13b0 := decide_eq_true c13
           clear c13
           by_cases c14 : 0 ≤ (rd ((rd_T77 l0_0 x4_1).f5) x6_2)
           ·rw [if_pos c14] at H
            have c14b0 := decide_eq_true c14
            clear c14
            by_cases c15 : (rd ((rd_T77 l0_0 x4_1).f5) x6_2) < (x3_1.length : Int)
            ·rw [if_pos c15] at H
             have c15b0 := decide_eq_true c15
             clear c15
             by_cases c16 : (wrap64 ((rd x3_1 (rd ((rd_T77 l0_0 x4_1).f5) x6_2)) + 1)) > x5_2
             ·rw [if_pos c16] at H
              have c16b0 : decide (x5_2 < (wrap64 ((rd x3_1 (rd ((rd_T77 l0_0 x4_1).f5) x6_2)) + 1))) = true := decide_eq_true c16
              clear c16
              have H' := Aside0.mk H
              clear H
              obtain ⟨hcz17_0, hcz17_1, hcz17_2, hfz17_0, hfz17_1, hfz17_2⟩ := Bc3_ BK315
              have p320 : 0 ≤ (x4_1 : Int) := of_decide_eq_true As_
              have q320 : x4_1 < (l0_0.length : Int) := of_decide_eq_true As_
              obtain ⟨ad320, A320_5, c320_5, e320, hx320_0, hx320_1, hx320_2, hx320_3, hx320_4, hx320_5, hl320_5, hi320_5⟩ := at_T77 HR0_0.out x4_1 p320 q320
              cases e320
              replace hx320_0 := Bw_ hx320_0 HB
              replace hx320_1 := Bw_ hx320_1 HB
              replace hx320_2 := Bw_ hx320_2 HB
              replace hx320_3 := Bw_ hx320_3 HB
              replace hx320_4 := Bw_ hx320_4 HB
              replace hx320_5 := Bw_ hx320_5 HB
              have HR320_5 := Aside0.mk hi320_5
              have HC320_5 := Aside0.mk hl320_5
              clear hi320_5 hl320_5
              replace p320 := eq_true p320
              replace q320 := eq_true q320
              have p321 : 0 ≤ (x4_1 : Int) := of_decide_eq_true As_
              have q321 : x4_1 < (l0_0.length : Int) := of_decide_eq_true As_
              obtain ⟨ad321, A321_5, c321_5, e321, hx321_0, hx321_1, hx321_2, hx321_3, hx321_4, hx321_5, hl321_5, hi321_5⟩ := at_T77 HR0_0.out x4_1 p321 q321
              obtain rfl : ad320 = ad321 := (by injection e321)
              replace hx321_0 := Bw_ hx321_0 HB
              replace hx321_1 := Bw_ hx321_1 HB
              replace hx321_2 := Bw_ hx321_2 HB
              replace hx321_3 := Bw_ hx321_3 HB
              replace hx321_4 := Bw_ hx321_4 HB
              replace hx321_5 := Bw_ hx321_5 HB
              have HR321_5 := Aside0.mk hi321_5
              have HC321_5 := Aside0.mk hl321_5
              clear hi321_5 hl321_5
              replace p321 := eq_true p321
              replace q321 := eq_true q321
              have ea_ := Option.some.inj (hx320_5.symm.trans hx321_5)
              injection ea_ with ea_ en_ ec_
              subst ea_
              subst ec_
              clear en_
              have p322 : 0 ≤ (x6_2 : Int) := of_decide_eq_true As_
              have q322 : x6_2 < (((rd_T77 l0_0 x4_1).f5).length : Int) := of_decide_eq_true As_
              obtain ⟨ad322, e322, hx322_0⟩ := Kd.at_int HR321_5.out x6_2 p322 q322
              cases e322
              replace hx322_0 := Bw_ hx322_0 HB
              replace p322 := eq_true p322
              replace q322 := eq_true q322
              obtain ⟨Ao18, co18, eo18⟩ := Kd.R_slice HO_3.out
              subst eo18
              have p323 : 0 ≤ ((rd ((rd_T77 l0_0 x4_1).f5) x6_2) : Int) := of_decide_eq_true As_
              have q323 : (rd ((rd_T77 l0_0 x4_1).f5) x6_2) < (x3_1.length : Int) := of_decide_eq_true As_
              obtain ⟨ad323, e323, hx323_0⟩ := Kd.at_int (Kd.R_reads' HO_3.out).2.2 (rd ((rd_T77 l0_0 x4_1).f5) x6_2) p323 q323
              cases e323
              replace p323 := eq_true p323
              replace q323 := eq_true q323
              have p324 : 0 ≤ (x4_1 : Int) := of_decide_eq_true As_
              have q324 : x4_1 < (l0_0.length : Int) := of_decide_eq_true As_
              obtain ⟨ad324, A324_5, c324_5, e324, hx324_0, hx324_1, hx324_2, hx324_3, hx324_4, hx324_5, hl324_5, hi324_5⟩ := at_T77 HR0_0.out x4_1 p324 q324
              obtain rfl : ad320 = ad324 := (by injection e324)
              replace hx324_0 := Bw_ hx324_0 HB
              replace hx324_1 := Bw_ hx324_1 HB
              replace hx324_2 := Bw_ hx324_2 HB
              replace hx324_3 := Bw_ hx324_3 HB
              replace hx324_4 := Bw_ hx324_4 HB
              replace hx324_5 := Bw_ hx324_5 HB
              have HR324_5 := Aside0.mk hi324_5
              have HC324_5 := Aside0.mk hl324_5
              clear hi324_5 hl324_5
              replace p324 := eq_true p324
              replace q324 := eq_true q324
              have ea_ := Option.some.inj (hx320_5.symm.trans hx324_5)
              injection ea_ with ea_ en_ ec_
              subst ea_
              subst ec_
              clear en_
              have p325 : 0 ≤ (x6_2 : Int) := of_decide_eq_true As_
              have q325 : x6_2 < (((rd_T77 l0_0 x4_1).f5).length : Int) := of_decide_eq_true As_
              obtain ⟨ad325, e325, hx325_0⟩ := Kd.at_int HR324_5.out x6_2 p325 q325
              cases e325
              replace hx325_0 := Bw_ hx325_0 HB
              replace p325 := eq_true p325
              replace q325 := eq_true q325
              have p326 : 0 ≤ ((rd ((rd_T77 l0_0 x4_1).f5) x6_2) : Int) := of_decide_eq_true As_
              have q326 : (rd ((rd_T77 l0_0 x4_1).f5) x6_2) < (x3_1.length : Int) := of_decide_eq_true As_
              obtain ⟨ad326, e326, hx326_0⟩ := Kd.at_int (Kd.R_reads' HO_3.out).2.2 (rd ((rd_T77 l0_0 x4_1).f5) x6_2) p326 q326
              obtain rfl : ad323 = ad326 := (by injection e326)
              replace p326 := eq_true p326
              replace q326 := eq_true q326
              go_wp2
              go_roundg k2
              case measure => have := HK1.out; have := HK2.out; omega
              case rel => exact ⟨(wrap64 ((rd x3_1 (rd ((rd_T77 l0_0 x4_1).f5) x6_2)) + 1)), (wrap64 (x6_2 + 1)), Rr_, Rr_, H', ⟨by have := HK1.out; have := HK2.out; omega⟩, ⟨Rq_ HO_3⟩, ⟨Bq_ BK315⟩, ⟨Hf_ HB⟩⟩
             ·rw [if_neg c16] at H
              have c16b0 : decide (x5_2 < (wrap64 ((rd x3_1 (rd ((rd_T77 l0_0 x4_1).f5) x6_2)) + 1))) = false := decide_eq_false c16
              clear c16
              have H' := Aside0.mk H
              clear H
              obtain ⟨hcz19_0, hcz19_1, hcz19_2, hfz19_0, hfz19_1, hfz19_2⟩ := Bc3_ BK315
              have p320 : 0 ≤ (x4_1 : Int) := of_decide_eq_true As_
              have q320 : x4_1 < (l0_0.length : Int) := of_decide_eq_true As_
              obtain ⟨ad320, A320_5, c320_5, e320, hx320_0, hx320_1, hx320_2, hx320_3, hx320_4, hx320_5, hl320_5, hi320_5⟩ := at_T77 HR0_0.out x4_1 p320 q320
              cases e320
              replace hx320_0 := Bw_ hx320_0 HB
              replace hx320_1 := Bw_ hx320_1 HB
              replace hx320_2 := Bw_ hx320_2 HB
              replace hx320_3 := Bw_ hx320_3 HB
              replace hx320_4 := Bw_ hx320_4 HB
              replace hx320_5 := Bw_ hx320_5 HB
              have HR320_5 := Aside0.mk hi320_5
              have HC320_5 := Aside0.mk hl320_5
              clear hi320_5 hl320_5
              replace p320 := eq_true p320
              replace q320 := eq_true q320
              have p321 : 0 ≤ (x4_1 : Int) := of_decide_eq_true As_
              have q321 : x4_1 < (l0_0.length : Int) := of_decide_eq_true As_
              obtain ⟨ad321, A321_5, c321_5, e321, hx321_0, hx321_1, hx321_2, hx321_3, hx321_4, hx321_5, hl321_5, hi321_5⟩ := at_T77 HR0_0.out x4_1 p321 q321
              obtain rfl : ad320 = ad321 := (by injection e321)
              replace hx321_0 := Bw_ hx321_0 HB
              replace hx321_1 := Bw_ hx321_1 HB
              replace hx321_2 := Bw_ hx321_2 HB
              replace hx321_3 := Bw_ hx321_3 HB
              replace hx321_4 := Bw_ hx321_4 HB
              replace hx321_5 := Bw_ hx321_5 HB
              have HR321_5 := Aside0.mk hi321_5
              have HC321_5 := Aside0.mk hl321_5
              clear hi321_5 hl321_5
              replace p321 := eq_true p321
              replace q321 := eq_true q321
              have ea_ := Option.some.inj (hx320_5.symm.trans hx321_5)
              injection ea_ with ea_ en_ ec_
              subst ea_
              subst ec_
              clear en_
              have p322 : 0 ≤ (x6_2 : Int) := of_decide_eq_true As_
              have q322 : x6_2 < (((rd_T77 l0_0 x4_1).f5).length : Int) := of_decide_eq_true As_
              obtain ⟨ad322, e322, hx322_0⟩ := Kd.at_int HR321_5.out x6_2 p322 q322
              cases e322
              replace hx322_0 := Bw_ hx322_0 HB
              replace p322 := eq_true p322
              replace q322 := eq_true q322
              obtain ⟨Ao20, co20, eo20⟩ := Kd.R_slice HO_3.out
              subst eo20
              have p323 : 0 ≤ ((rd ((rd_T77 l0_0 x4_1).f5) x6_2) : Int) := of_decide_eq_true As_
              have q323 : (rd ((rd_T77 l0_0 x4_1).f5) x6_2) < (x3_1.length : Int) := of_decide_eq_true As_
              obtain ⟨ad323, e323, hx323_0⟩ := Kd.at_int (Kd.R_reads' HO_3.out).2.2 (rd ((rd_T77 l0_0 x4_1).f5) x6_2) p323 q323
              cases e323
              replace p323 := eq_true p323
              replace q323 := eq_true q323
              go_wp2
              go_roundg k2
              case measure => have := HK1.out; have := HK2.out; omega
              case rel => exact ⟨(x5_2), (wrap64 (x6_2 + 1)), Rr_, Rr_, H', ⟨by have := HK1.out; have := HK2.out; omega⟩, ⟨Rq_ HO_3⟩, ⟨Bq_ BK315⟩, ⟨Hf_ HB⟩⟩
            ·rw [if_neg c15] at H
             exact absurd H (by simp)
           ·rw [if_neg c14] at H
            exact absurd H (by simp)
          ·rw [if_neg c13] at H
           exact absurd H (by simp)
         ·rw [if_neg c12] at H
          have c12b0 := decide_eq_false c12
          clear c12
          by_cases c21 : x5_2 > 10
          ·rw [if_pos c21] at H
           have c21b0 : decide (10 < x5_2) = true := decide_eq_true c21
           clear c21
           by_cases c22 : x3_1.length < 17592186044416
           ·rw [if_pos c22] at H
            have LMc22 := Aside0.mk c22
            clear c22
            obtain ⟨y327, hy327⟩ : ∃ y_ : List Int, y_ = (x3_1 ++ [0]) := ⟨_, rfl⟩
            replace H : (spec_l05Deeps.l0 k2 y327 (wrap64 (x4_1 + 1)) l0_0 l0_1 l0_2) = some r := by first | (rw [hy327]; with_reducible exact H) | (have H2_ := (Option.bind_some _ _).symm.trans H; rw [hy327]; with_reducible exact H2_) | (have H2_ := (Option.bind_some _ _).symm.trans H; with_reducible exact H2_) | with_reducible exact H | (rw [hy327]; exact H) | exact H
            have Ny327 := Aside0.mk hy327
            clear hy327
            have H' := Aside0.mk H
            clear H
            obtain ⟨hcz23_0, hcz23_1, hcz23_2, hfz23_0, hfz23_1, hfz23_2⟩ := Bc3_ BK315
            have p320 : 0 ≤ (x4_1 : Int) := of_decide_eq_true As_
            have q320 : x4_1 < (l0_0.length : Int) := of_decide_eq_true As_
            obtain ⟨ad320, A320_5, c320_5, e320, hx320_0, hx320_1, hx320_2, hx320_3, hx320_4, hx320_5, hl320_5, hi320_5⟩ := at_T77 HR0_0.out x4_1 p320 q320
            cases e320
            replace hx320_0 := Bw_ hx320_0 HB
            replace hx320_1 := Bw_ hx320_1 HB
            replace hx320_2 := Bw_ hx320_2 HB
            replace hx320_3 := Bw_ hx320_3 HB
            replace hx320_4 := Bw_ hx320_4 HB
            replace hx320_5 := Bw_ hx320_5 HB
            have HR320_5 := Aside0.mk hi320_5
            have HC320_5 := Aside0.mk hl320_5
            clear hi320_5 hl320_5
            replace p320 := eq_true p320
            replace q320 := eq_true q320
            go_wp2_with (first | ((with_reducible refine gate_builtin (b := .append) (xs := #[.tmp 71, .tmp 73]) rfl ?_); at_builtin; refine Kd.R_append (Kd.int .i64) (w0 := w) w.heap.size rfl (.tmp 71) (.tmp 73) 27 3 (.int .i64 0) 8 rfl Try.underlying27 info3 rfl (by decide) (by omega) u3 x3_1 0 [.int .i64 0] (fun _ => True) (fun _ => False) rfl rfl ?aP (fun _ hk => hk.elim) ?aF ?aO ?aB ?aS ?aL ?_; (case aP => exact rfl); (case aB => exact (Hf_ HB)); (case aF => exact (fun _ _ => trivial)); (case aO => exact (Rq_ HO_3)); (case aS => exact (below_size (Hf_ HB))); (case aL => have := LMc22.out; omega); intro v328 w24 ho hb hg hat; rw [← Ny327.out] at ho; have n0_ := Aside0.mk (blk_grown (g := gb315) (o := .cells #[.slice (some ad320) l0_0.length c0_0, .slice A0_1 l0_1.length c0_1, .slice A0_2 l0_2.length c0_2] 40 (0, 0)) (Bq_ BK315) hg (Kd.R_ne HO_3.out BK315.out (by decide))); have n1_ := Aside0.mk (hb); have n2_ := Aside0.mk (ho); clear BK315; clear HB; clear HO_3; have BK315 := n0_; have HB := n1_; have HO329 := n2_; clear n0_ n1_ n2_; clear ho hb hg hat))
            go_roundg k2
            case measure => have := HK1.out; have := HK2.out; omega
            case rel => exact ⟨(y327), (wrap64 (x4_1 + 1)), Rr_, H', ⟨by have := HK1.out; have := HK2.out; omega⟩, ⟨Rq_ HO329⟩, ⟨Bq_ BK315⟩, ⟨Hf_ HB⟩⟩
           ·rw [if_neg c22] at H
            exact absurd H (by simp)
          ·rw [if_neg c21] at H
           have c21b0 : decide (10 < x5_2) = false := decide_eq_false c21
           clear c21
           by_cases c25 : x4_1 > 0
           ·rw [if_pos c25] at H
            have c25b0 : decide (0 < x4_1) = true := decide_eq_true c25
            clear c25
            obtain ⟨ji26, hji26⟩ : ∃ j_ : Int, (wrap64 (x4_1 - 1)) = j_ := ⟨_, rfl⟩
            replace H : (if 0 ≤ (ji26) then (if (ji26) < (x3_1.length : Int) then (if (rd x3_1 (ji26)) = 0 then (if x3_1.length < 17592186044416 then (spec_l05Deeps.l0 k2 (x3_1 ++ [0]) (wrap64 (x4_1 + 1)) l0_0 l0_1 l0_2) else (none)) else (if x3_1.length < 17592186044416 then (spec_l05Deeps.l0 k2 (x3_1 ++ [x5_2]) (wrap64 (x4_1 + 1)) l0_0 l0_1 l0_2) else (none))) else (none)) else (none)) = some r := by first | (rw [hji26] at H; exact H) | (simp only [hji26] at H ⊢; exact H)
            have hji26w : (IntKind.i64.wrap (x4_1 - 1)) = ji26 := (i64_w _).trans hji26
            by_cases c27 : 0 ≤ (ji26)
            ·rw [if_pos c27] at H
             have c27b0 := decide_eq_true c27
             clear c27
             by_cases c28 : (ji26) < (x3_1.length : Int)
             ·rw [if_pos c28] at H
              have c28b0 := decide_eq_true c28
              clear c28
              by_cases c29 : (rd x3_1 (ji26)) = 0
              ·rw [if_pos c29] at H
               have c29b0 := beq_iff_eq.mpr c29
               have c29b1 := bne_eq_false_iff_eq.mpr c29
               clear c29
               by_cases c30 : x3_1.length < 17592186044416
               ·rw [if_pos c30] at H
                have LMc30 := Aside0.mk c30
                clear c30
                obtain ⟨y331, hy331⟩ : ∃ y_ : List Int, y_ = (x3_1 ++ [0]) := ⟨_, rfl⟩
                replace H : (spec_l05Deeps.l0 k2 y331 (wrap64 (x4_1 + 1)) l0_0 l0_1 l0_2) = some r := by first | (rw [hy331]; with_reducible exact H) | (have H2_ := (Option.bind_some _ _).symm.trans H; rw [hy331]; with_reducible exact H2_) | (have H2_ := (Option.bind_some _ _).symm.trans H; with_reducible exact H2_) | with_reducible exact H | (rw [hy331]; exact H) | exact H
                have Ny331 := Aside0.mk hy331
                clear hy331
                have H' := Aside0.mk H
                clear H
                obtain ⟨hcz31_0, hcz31_1, hcz31_2, hfz31_0, hfz31_1, hfz31_2⟩ := Bc3_ BK315
                have p320 : 0 ≤ (x4_1 : Int) := of_decide_eq_true As_
                have q320 : x4_1 < (l0_0.length : Int) := of_decide_eq_true As_
                obtain ⟨ad320, A320_5, c320_5, e320, hx320_0, hx320_1, hx320_2, hx320_3, hx320_4, hx320_5, hl320_5, hi320_5⟩ := at_T77 HR0_0.out x4_1 p320 q320
                cases e320
                replace hx320_0 := Bw_ hx320_0 HB
                replace hx320_1 := Bw_ hx320_1 HB
                replace hx320_2 := Bw_ hx320_2 HB
                replace hx320_3 := Bw_ hx320_3 HB
                replace hx320_4 := Bw_ hx320_4 HB
                replace hx320_5 := Bw_ hx320_5 HB
                have HR320_5 := Aside0.mk hi320_5
                have HC320_5 := Aside0.mk hl320_5
                clear hi320_5 hl320_5
                replace p320 := eq_true p320
                replace q320 := eq_true q320
                obtain ⟨Ao32, co32, eo32⟩ := Kd.R_slice HO_3.out
                subst eo32
                have p330 : 0 ≤ ((ji26) : Int) := of_decide_eq_true As_
                have q330 : (ji26) < (x3_1.length : Int) := of_decide_eq_true As_
                obtain ⟨ad330, e330, hx330_0⟩ := Kd.at_int (Kd.R_reads' HO_3.out).2.2 (ji26) p330 q330
                cases e330
                replace p330 := eq_true p330
                replace q330 := eq_true q330
                go_wp2_with (first | ((with_reducible refine gate_builtin (b := .append) (xs := #[.tmp 71, .tmp 73]) rfl ?_); at_builtin; refine Kd.R_append (Kd.int .i64) (w0 := w) w.heap.size rfl (.tmp 71) (.tmp 73) 27 3 (.int .i64 0) 8 rfl Try.underlying27 info3 rfl (by decide) (by omega) (.slice (some ad330) x3_1.length co32) x3_1 0 [.int .i64 0] (fun _ => True) (fun _ => False) rfl rfl ?aP (fun _ hk => hk.elim) ?aF ?aO ?aB ?aS ?aL ?_; (case aP => exact rfl); (case aB => exact (Hf_ HB)); (case aF => exact (fun _ _ => trivial)); (case aO => exact (Rq_ HO_3)); (case aS => exact (below_size (Hf_ HB))); (case aL => have := LMc30.out; omega); intro v332 w33 ho hb hg hat; rw [← Ny331.out] at ho; have n0_ := Aside0.mk (blk_grown (g := gb315) (o := .cells #[.slice (some ad320) l0_0.length c0_0, .slice A0_1 l0_1.length c0_1, .slice A0_2 l0_2.length c0_2] 40 (0, 0)) (Bq_ BK315) hg (Kd.R_ne HO_3.out BK315.out (by decide))); have n1_ := Aside0.mk (hb); have n2_ := Aside0.mk (ho); clear BK315; clear HB; clear HO_3; have BK315 := n0_; have HB := n1_; have HO333 := n2_; clear n0_ n1_ n2_; clear ho hb hg hat))
                go_roundg k2
                case measure => have := HK1.out; have := HK2.out; omega
                case rel => exact ⟨(y331), (wrap64 (x4_1 + 1)), Rr_, H', ⟨by have := HK1.out; have := HK2.out; omega⟩, ⟨Rq_ HO333⟩, ⟨Bq_ BK315⟩, ⟨Hf_ HB⟩⟩
               ·rw [if_neg c30] at H
                exact absurd H (by simp)
              ·rw [if_neg c29] at H
               have c29b0 := beq_eq_false_iff_ne.mpr c29
               have c29b1 := bne_iff_ne.mpr c29
               by_cases c34 : x3_1.length < 17592186044416
               ·rw [if_pos c34] at H
                have LMc34 := Aside0.mk c34
                clear c34
                obtain ⟨y334, hy334⟩ : ∃ y_ : List Int, y_ = (x3_1 ++ [x5_2]) := ⟨_, rfl⟩
                replace H : (spec_l05Deeps.l0 k2 y334 (wrap64 (x4_1 + 1)) l0_0 l0_1 l0_2) = some r := by first | (rw [hy334]; with_reducible exact H) | (have H2_ := (Option.bind_some _ _).symm.trans H; rw [hy334]; with_reducible exact H2_) | (have H2_ := (Option.bind_some _ _).symm.trans H; with_reducible exact H2_) | with_reducible exact H | (rw [hy334]; exact H) | exact H
                have Ny334 := Aside0.mk hy334
                clear hy334
                have H' := Aside0.mk H
                clear H
                obtain ⟨hcz35_0, hcz35_1, hcz35_2, hfz35_0, hfz35_1, hfz35_2⟩ := Bc3_ BK315
                have p320 : 0 ≤ (x4_1 : Int) := of_decide_eq_true As_
                have q320 : x4_1 < (l0_0.length : Int) := of_decide_eq_true As_
                obtain ⟨ad320, A320_5, c320_5, e320, hx320_0, hx320_1, hx320_2, hx320_3, hx320_4, hx320_5, hl320_5, hi320_5⟩ := at_T77 HR0_0.out x4_1 p320 q320
                cases e320
                replace hx320_0 := Bw_ hx320_0 HB
                replace hx320_1 := Bw_ hx320_1 HB
                replace hx320_2 := Bw_ hx320_2 HB
                replace hx320_3 := Bw_ hx320_3 HB
                replace hx320_4 := Bw_ hx320_4 HB
                replace hx320_5 := Bw_ hx320_5 HB
                have HR320_5 := Aside0.mk hi320_5
                have HC320_5 := Aside0.mk hl320_5
                clear hi320_5 hl320_5
                replace p320 := eq_true p320
                replace q320 := eq_true q320
                obtain ⟨Ao36, co36, eo36⟩ := Kd.R_slice HO_3.out
                subst eo36
                have p330 : 0 ≤ ((ji26) : Int) := of_decide_eq_true As_
                have q330 : (ji26) < (x3_1.length : Int) := of_decide_eq_true As_
                obtain ⟨ad330, e330, hx330_0⟩ := Kd.at_int (Kd.R_reads' HO_3.out).2.2 (ji26) p330 q330
                cases e330
                replace p330 := eq_true p330
                replace q330 := eq_true q330
                go_wp2_with (first | ((with_reducible refine gate_builtin (b := .append) (xs := #[.tmp 71, .tmp 73]) rfl ?_); at_builtin; refine Kd.R_append (Kd.int .i64) (w0 := w) w.heap.size rfl (.tmp 71) (.tmp 73) 27 3 (.int .i64 0) 8 rfl Try.underlying27 info3 rfl (by decide) (by omega) (.slice (some ad330) x3_1.length co36) x3_1 x5_2 [.int .i64 x5_2] (fun _ => True) (fun _ => False) rfl rfl ?aP (fun _ hk => hk.elim) ?aF ?aO ?aB ?aS ?aL ?_; (case aP => exact rfl); (case aB => exact (Hf_ HB)); (case aF => exact (fun _ _ => trivial)); (case aO => exact (Rq_ HO_3)); (case aS => exact (below_size (Hf_ HB))); (case aL => have := LMc34.out; omega); intro v335 w37 ho hb hg hat; rw [← Ny334.out] at ho; have n0_ := Aside0.mk (blk_grown (g := gb315) (o := .cells #[.slice (some ad320) l0_0.length c0_0, .slice A0_1 l0_1.length c0_1, .slice A0_2 l0_2.length c0_2] 40 (0, 0)) (Bq_ BK315) hg (Kd.R_ne HO_3.out BK315.out (by decide))); have n1_ := Aside0.mk (hb); have n2_ := Aside0.mk (ho); clear BK315; clear HB; clear HO_3; have BK315 := n0_; have HB := n1_; have HO336 := n2_; clear n0_ n1_ n2_; clear ho hb hg hat))
                go_roundg k2
                case measure => have := HK1.out; have := HK2.out; omega
                case rel => exact ⟨(y334), (wrap64 (x4_1 + 1)), Rr_, H', ⟨by have := HK1.out; have := HK2.out; omega⟩, ⟨Rq_ HO336⟩, ⟨Bq_ BK315⟩, ⟨Hf_ HB⟩⟩
               ·rw [if_neg c34] at H
                exact absurd H (by simp)
             ·rw [if_neg c28] at H
              exact absurd H (by simp)
            ·rw [if_neg c27] at H
             exact absurd H (by simp)
           ·rw [if_neg c25] at H
            have c25b0 : decide (0 < x4_1) = false := decide_eq_false c25
            clear c25
            by_cases c38 : x3_1.length < 17592186044416
            ·rw [if_pos c38] at H
             have LMc38 := Aside0.mk c38
             clear c38
             obtain ⟨y337, hy337⟩ : ∃ y_ : List Int, y_ = (x3_1 ++ [x5_2]) := ⟨_, rfl⟩
             replace H : (spec_l05Deeps.l0 k2 y337 (wrap64 (x4_1 + 1)) l0_0 l0_1 l0_2) = some r := by first | (rw [hy337]; with_reducible exact H) | (have H2_ := (Option.bind_some _ _).symm.trans H; rw [hy337]; with_reducible exact H2_) | (have H2_ := (Option.bind_some _ _).symm.trans H; with_reducible exact H2_) | with_reducible exact H | (rw [hy337]; exact H) | exact H
             have Ny337 := Aside0.mk hy337
             clear hy337
             have H' := Aside0.mk H
             clear H
             obtain ⟨hcz39_0, hcz39_1, hcz39_2, hfz39_0, hfz39_1, hfz39_2⟩ := Bc3_ BK315
             have p320 : 0 ≤ (x4_1 : Int) := of_decide_eq_true As_
             have q320 : x4_1 < (l0_0.length : Int) := of_decide_eq_true As_
             obtain ⟨ad320, A320_5, c320_5, e320, hx320_0, hx320_1, hx320_2, hx320_3, hx320_4, hx320_5, hl320_5, hi320_5⟩ := at_T77 HR0_0.out x4_1 p320 q320
             cases e320
             replace hx320_0 := Bw_ hx320_0 HB
             replace hx320_1 := Bw_ hx320_1 HB
             replace hx320_2 := Bw_ hx320_2 HB
             replace hx320_3 := Bw_ hx320_3 HB
             replace hx320_4 := Bw_ hx320_4 HB
             replace hx320_5 := Bw_ hx320_5 HB
             have HR320_5 := Aside0.mk hi320_5
             have HC320_5 := Aside0.mk hl320_5
             clear hi320_5 hl320_5
             replace p320 := eq_true p320
             replace q320 := eq_true q320
             go_wp2_with (first | ((with_reducible refine gate_builtin (b := .append) (xs := #[.tmp 71, .tmp 73]) rfl ?_); at_builtin; refine Kd.R_append (Kd.int .i64) (w0 := w) w.heap.size rfl (.tmp 71) (.tmp 73) 27 3 (.int .i64 0) 8 rfl Try.underlying27 info3 rfl (by decide) (by omega) u3 x3_1 x5_2 [.int .i64 x5_2] (fun _ => True) (fun _ => False) rfl rfl ?aP (fun _ hk => hk.elim) ?aF ?aO ?aB ?aS ?aL ?_; (case aP => exact rfl); (case aB => exact (Hf_ HB)); (case aF => exact (fun _ _ => trivial)); (case aO => exact (Rq_ HO_3)); (case aS => exact (below_size (Hf_ HB))); (case aL => have := LMc38.out; omega); intro v338 w40 ho hb hg hat; rw [← Ny337.out] at ho; have n0_ := Aside0.mk (blk_grown (g := gb315) (o := .cells #[.slice (some ad320) l0_0.length c0_0, .slice A0_1 l0_1.length c0_1, .slice A0_2 l0_2.length c0_2] 40 (0, 0)) (Bq_ BK315) hg (Kd.R_ne HO_3.out BK315.out (by decide))); have n1_ := Aside0.mk (hb); have n2_ := Aside0.mk (ho); clear BK315; clear HB; clear HO_3; have BK315 := n0_; have HB := n1_; have HO339 := n2_; clear n0_ n1_ n2_; clear ho hb hg hat))
             go_roundg k2
             case measure => have := HK1.out; have := HK2.out; omega
             case rel => exact ⟨(y337), (wrap64 (x4_1 + 1)), Rr_, H', ⟨by have := HK1.out; have := HK2.out; omega⟩, ⟨Rq_ HO339⟩, ⟨Bq_ BK315⟩, ⟨Hf_ HB⟩⟩
            ·rw [if_neg c38] at H
             exact absurd H (by simp)
        ·rw [if_neg c11] at H
         exact absurd H (by simp)
       ·rw [if_neg c10] at H
        exact absurd H (by simp)
    ·replace c7 := Bool.eq_false_iff.mpr c7
     subst c7
     rw [if_neg Ff_] at H
     by_cases c41 : 0 > 10
     ·exact absurd c41 (by decide)
     ·rw [if_neg c41] at H
      have c41b0 : decide (10 < 0) = false := decide_eq_false c41
      clear c41
      by_cases c46 : x4_1 > 0
      ·rw [if_pos c46] at H
       have c46b0 : decide (0 < x4_1) = true := decide_eq_true c46
       clear c46
       obtain ⟨ji47, hji47⟩ : ∃ j_ : Int, (wrap64 (x4_1 - 1)) = j_ := ⟨_, rfl⟩
       replace H : (if 0 ≤ (ji47) then (if (ji47) < (x3_1.length : Int) then (if (rd x3_1 (ji47)) = 0 then (if x3_1.length < 17592186044416 then (spec_l05Deeps.l0 k1 (x3_1 ++ [0]) (wrap64 (x4_1 + 1)) l0_0 l0_1 l0_2) else (none)) else (if x3_1.length < 17592186044416 then (spec_l05Deeps.l0 k1 (x3_1 ++ [0]) (wrap64 (x4_1 + 1)) l0_0 l0_1 l0_2) else (none))) else (none)) else (none)) = some r := by first | (rw [hji47] at H; exact H) | (simp only [hji47] at H ⊢; exact H)
       (try rw [hji47] at A6)
       have hji47w : (IntKind.i64.wrap (x4_1 - 1)) = ji47 := (i64_w _).trans hji47
       by_cases c48 : 0 ≤ (ji47)
       ·rw [if_pos c48] at H
        have c48b0 := decide_eq_true c48
        clear c48
        by_cases c49 : (ji47) < (x3_1.length : Int)
        ·rw [if_pos c49] at H
         have c49b0 := decide_eq_true c49
         clear c49
         by_cases c50 : (rd x3_1 (ji47)) = 0
         ·rw [if_pos c50] at H
          have c50b0 := beq_iff_eq.mpr c50
          have c50b1 := bne_eq_false_iff_eq.mpr c50
          clear c50
          by_cases c51 : x3_1.length < 17592186044416
          ·rw [if_pos c51] at H
           have LMc51 := Aside0.mk c51
           clear c51
           obtain ⟨y344, hy344⟩ : ∃ y_ : List Int, y_ = (x3_1 ++ [0]) := ⟨_, rfl⟩
           replace H : (spec_l05Deeps.l0 k1 y344 (wrap64 (x4_1 + 1)) l0_0 l0_1 l0_2) = some r := by first | (rw [hy344]; with_reducible exact H) | (have H2_ := (Option.bind_some _ _).symm.trans H; rw [hy344]; with_reducible exact H2_) | (have H2_ := (Option.bind_some _ _).symm.trans H; with_reducible exact H2_) | with_reducible exact H | (rw [hy344]; exact H) | exact H
           have Ny344 := Aside0.mk hy344
           clear hy344
           have H' := Aside0.mk H
           clear H
           obtain ⟨hcz52_0, hcz52_1, hcz52_2, hfz52_0, hfz52_1, hfz52_2⟩ := Bc3_ BK315
           go_wp2_with (first | (refine Gl_ (some 17) Try.func35 ((spec_NodeOk.calls k1 _ _ l0_0 _ _ l0_1 _ _ l0_2 x4_1 false _ (Sc_ HR0_0 HB) HC0_0.out (Sc_ HR0_1 HB) HC0_1.out (Sc_ HR0_2 HB) HC0_2.out A6.out).mono ?_); rintro e w53 ⟨rfl, hb⟩; refine ⟨_, rfl, ?_⟩; replace HO_3 := Rb_ HO_3 hb; replace BK315 := Bb_ BK315 hb; replace HB := Hs_ HB hb; clear hb; obtain ⟨Ao54, co54, eo54⟩ := Kd.R_slice HO_3.out; subst eo54; have p343 : 0 ≤ ((ji47) : Int) := of_decide_eq_true As_; have q343 : (ji47) < (x3_1.length : Int) := of_decide_eq_true As_; obtain ⟨ad343, e343, hx343_0⟩ := Kd.at_int (Kd.R_reads' HO_3.out).2.2 (ji47) p343 q343; cases e343; replace p343 := eq_true p343; replace q343 := eq_true q343) | ((with_reducible refine gate_builtin (b := .append) (xs := #[.tmp 71, .tmp 73]) rfl ?_); at_builtin; refine Kd.R_append (Kd.int .i64) (w0 := w) w.heap.size rfl (.tmp 71) (.tmp 73) 27 3 (.int .i64 0) 8 rfl Try.underlying27 info3 rfl (by decide) (by omega) (.slice (some ad343) x3_1.length co54) x3_1 0 [.int .i64 0] (fun _ => True) (fun _ => False) rfl rfl ?aP (fun _ hk => hk.elim) ?aF ?aO ?aB ?aS ?aL ?_; (case aP => exact rfl); (case aB => exact (Hf_ HB)); (case aF => exact (fun _ _ => trivial)); (case aO => exact (Rq_ HO_3)); (case aS => exact (below_size (Hf_ HB))); (case aL => have := LMc51.out; omega); intro v345 w55 ho hb hg hat; rw [← Ny344.out] at ho; have n0_ := Aside0.mk (blk_grown (g := gb315) (o := .cells #[.slice A0_0 l0_0.length c0_0, .slice A0_1 l0_1.length c0_1, .slice A0_2 l0_2.length c0_2] 40 (0, 0)) (Bq_ BK315) hg (Kd.R_ne HO_3.out BK315.out (by decide))); have n1_ := Aside0.mk (hb); have n2_ := Aside0.mk (ho); clear BK315; clear HB; clear HO_3; have BK315 := n0_; have HB := n1_; have HO346 := n2_; clear n0_ n1_ n2_; clear ho hb hg hat))
           go_roundg k1
           case measure => have := HK1.out; omega
           case rel => exact ⟨(y344), (wrap64 (x4_1 + 1)), Rr_, H', ⟨by have := HK1.out; omega⟩, ⟨Rq_ HO346⟩, ⟨Bq_ BK315⟩, ⟨Hf_ HB⟩⟩
          ·rw [if_neg c51] at H
           exact absurd H (by simp)
         ·rw [if_neg c50] at H
          have c50b0 := beq_eq_false_iff_ne.mpr c50
          have c50b1 := bne_iff_ne.mpr c50
          by_cases c56 : x3_1.length < 17592186044416
          ·rw [if_pos c56] at H
           have LMc56 := Aside0.mk c56
           clear c56
           obtain ⟨y347, hy347⟩ : ∃ y_ : List Int, y_ = (x3_1 ++ [0]) := ⟨_, rfl⟩
           replace H : (spec_l05Deeps.l0 k1 y347 (wrap64 (x4_1 + 1)) l0_0 l0_1 l0_2) = some r := by first | (rw [hy347]; with_reducible exact H) | (have H2_ := (Option.bind_some _ _).symm.trans H; rw [hy347]; with_reducible exact H2_) | (have H2_ := (Option.bind_some _ _).symm.trans H; with_reducible exact H2_) | with_reducible exact H | (rw [hy347]; exact H) | exact H
           have Ny347 := Aside0.mk hy347
           clear hy347
           have H' := Aside0.mk H
           clear H
           obtain ⟨hcz57_0, hcz57_1, hcz57_2, hfz57_0, hfz57_1, hfz57_2⟩ := Bc3_ BK315
           go_wp2_with (first | (refine Gl_ (some 17) Try.func35 ((spec_NodeOk.calls k1 _ _ l0_0 _ _ l0_1 _ _ l0_2 x4_1 false _ (Sc_ HR0_0 HB) HC0_0.out (Sc_ HR0_1 HB) HC0_1.out (Sc_ HR0_2 HB) HC0_2.out A6.out).mono ?_); rintro e w58 ⟨rfl, hb⟩; refine ⟨_, rfl, ?_⟩; replace HO_3 := Rb_ HO_3 hb; replace BK315 := Bb_ BK315 hb; replace HB := Hs_ HB hb; clear hb; obtain ⟨Ao59, co59, eo59⟩ := Kd.R_slice HO_3.out; subst eo59; have p343 : 0 ≤ ((ji47) : Int) := of_decide_eq_true As_; have q343 : (ji47) < (x3_1.length : Int) := of_decide_eq_true As_; obtain ⟨ad343, e343, hx343_0⟩ := Kd.at_int (Kd.R_reads' HO_3.out).2.2 (ji47) p343 q343; cases e343; replace p343 := eq_true p343; replace q343 := eq_true q343) | ((with_reducible refine gate_builtin (b := .append) (xs := #[.tmp 71, .tmp 73]) rfl ?_); at_builtin; refine Kd.R_append (Kd.int .i64) (w0 := w) w.heap.size rfl (.tmp 71) (.tmp 73) 27 3 (.int .i64 0) 8 rfl Try.underlying27 info3 rfl (by decide) (by omega) (.slice (some ad343) x3_1.length co59) x3_1 0 [.int .i64 0] (fun _ => True) (fun _ => False) rfl rfl ?aP (fun _ hk => hk.elim) ?aF ?aO ?aB ?aS ?aL ?_; (case aP => exact rfl); (case aB => exact (Hf_ HB)); (case aF => exact (fun _ _ => trivial)); (case aO => exact (Rq_ HO_3)); (case aS => exact (below_size (Hf_ HB))); (case aL => have := LMc56.out; omega); intro v348 w60 ho hb hg hat; rw [← Ny347.out] at ho; have n0_ := Aside0.mk (blk_grown (g := gb315) (o := .cells #[.slice A0_0 l0_0.length c0_0, .slice A0_1 l0_1.length c0_1, .slice A0_2 l0_2.length c0_2] 40 (0, 0)) (Bq_ BK315) hg (Kd.R_ne HO_3.out BK315.out (by decide))); have n1_ := Aside0.mk (hb); have n2_ := Aside0.mk (ho); clear BK315; clear HB; clear HO_3; have BK315 := n0_; have HB := n1_; have HO349 := n2_; clear n0_ n1_ n2_; clear ho hb hg hat))
           go_roundg k1
           case measure => have := HK1.out; omega
           case rel => exact ⟨(y347), (wrap64 (x4_1 + 1)), Rr_, H', ⟨by have := HK1.out; omega⟩, ⟨Rq_ HO349⟩, ⟨Bq_ BK315⟩, ⟨Hf_ HB⟩⟩
          ·rw [if_neg c56] at H
           exact absurd H (by simp)
        ·rw [if_neg c49] at H
         exact absurd H (by simp)
       ·rw [if_neg c48] at H
        exact absurd H (by simp)
      ·rw [if_neg c46] at H
       have c46b0 : decide (0 < x4_1) = false := decide_eq_false c46
       clear c46
       by_cases c61 : x3_1.length < 17592186044416
       ·rw [if_pos c61] at H
        have LMc61 := Aside0.mk c61
        clear c61
        obtain ⟨y350, hy350⟩ : ∃ y_ : List Int, y_ = (x3_1 ++ [0]) := ⟨_, rfl⟩
        replace H : (spec_l05Deeps.l0 k1 y350 (wrap64 (x4_1 + 1)) l0_0 l0_1 l0_2) = some r := by first | (rw [hy350]; with_reducible exact H) | (have H2_ := (Option.bind_some _ _).symm.trans H; rw [hy350]; with_reducible exact H2_) | (have H2_ := (Option.bind_some _ _).symm.trans H; with_reducible exact H2_) | with_reducible exact H | (rw [hy350]; exact H) | exact H
        have Ny350 := Aside0.mk hy350
        clear hy350
        have H' := Aside0.mk H
        clear H
        obtain ⟨hcz62_0, hcz62_1, hcz62_2, hfz62_0, hfz62_1, hfz62_2⟩ := Bc3_ BK315
        go_wp2_with (first | (refine Gl_ (some 17) Try.func35 ((spec_NodeOk.calls k1 _ _ l0_0 _ _ l0_1 _ _ l0_2 x4_1 false _ (Sc_ HR0_0 HB) HC0_0.out (Sc_ HR0_1 HB) HC0_1.out (Sc_ HR0_2 HB) HC0_2.out A6.out).mono ?_); rintro e w63 ⟨rfl, hb⟩; refine ⟨_, rfl, ?_⟩; replace HO_3 := Rb_ HO_3 hb; replace BK315 := Bb_ BK315 hb; replace HB := Hs_ HB hb; clear hb) | ((with_reducible refine gate_builtin (b := .append) (xs := #[.tmp 71, .tmp 73]) rfl ?_); at_builtin; refine Kd.R_append (Kd.int .i64) (w0 := w) w.heap.size rfl (.tmp 71) (.tmp 73) 27 3 (.int .i64 0) 8 rfl Try.underlying27 info3 rfl (by decide) (by omega) u3 x3_1 0 [.int .i64 0] (fun _ => True) (fun _ => False) rfl rfl ?aP (fun _ hk => hk.elim) ?aF ?aO ?aB ?aS ?aL ?_; (case aP => exact rfl); (case aB => exact (Hf_ HB)); (case aF => exact (fun _ _ => trivial)); (case aO => exact (Rq_ HO_3)); (case aS => exact (below_size (Hf_ HB))); (case aL => have := LMc61.out; omega); intro v351 w64 ho hb hg hat; rw [← Ny350.out] at ho; have n0_ := Aside0.mk (blk_grown (g := gb315) (o := .cells #[.slice A0_0 l0_0.length c0_0, .slice A0_1 l0_1.length c0_1, .slice A0_2 l0_2.length c0_2] 40 (0, 0)) (Bq_ BK315) hg (Kd.R_ne HO_3.out BK315.out (by decide))); have n1_ := Aside0.mk (hb); have n2_ := Aside0.mk (ho); clear BK315; clear HB; clear HO_3; have BK315 := n0_; have HB := n1_; have HO352 := n2_; clear n0_ n1_ n2_; clear ho hb hg hat))
        go_roundg k1
        case measure => have := HK1.out; omega
        case rel => exact ⟨(y350), (wrap64 (x4_1 + 1)), Rr_, H', ⟨by have := HK1.out; omega⟩, ⟨Rq_ HO352⟩, ⟨Bq_ BK315⟩, ⟨Hf_ HB⟩⟩
       ·rw [if_neg c61] at H
        exact absurd H (by simp)
   ·rw [if_neg c5] at H
    have c5b0 := decide_eq_false c5
    clear c5
    obtain rfl := Option.some.inj H
    obtain ⟨hcz65_0, hcz65_1, hcz65_2, hfz65_0, hfz65_1, hfz65_2⟩ := Bc3_ BK315
    go_wp2
    go_ret
    exact ⟨_, Re_, by (with_reducible repeat (first | apply Kd.R_alloc | apply Kd.R_drewN | apply Kd.R_drew)); exact HO_3.out, Hf_ HB⟩

/-! ### spec_DeepOf: function 37 -/
def spec_DeepOf.f (k : Nat) (l0_0 : List (S77)) (l0_1 : List (S106)) (l0_2 : List (S103)) (a1 : Int) : Option (Int) := (spec_l01In.f a1 0 (wrap64 ((l0_0.length : Int) - 1))).bind fun t354 => (if t354 = true then ((spec_l05Deeps.f k l0_0 l0_1 l0_2).bind fun t355 => (if 0 ≤ a1 then (if a1 < (t355.length : Int) then (some (rd t355 a1)) else (none)) else (none))) else (some 0))
theorem spec_DeepOf.calls (k : Nat) (A0_0 : Option Addr) (c0_0 : Nat) (l0_0 : List (S77)) (A0_1 : Option Addr) (c0_1 : Nat) (l0_1 : List (S106)) (A0_2 : Option Addr) (c0_2 : Nat) (l0_2 : List (S103)) (a1 : Int) (r : Int) (w : World) (hr0_0 : Kd.C k77 w A0_0 l0_0.length l0_0) (hc0_0 : l0_0.length ≤ c0_0) (hr0_1 : Kd.C k106 w A0_1 l0_1.length l0_1) (hc0_1 : l0_1.length ≤ c0_1) (hr0_2 : Kd.C k103 w A0_2 l0_2.length l0_2) (hc0_2 : l0_2.length ≤ c0_2) (h : spec_DeepOf.f k l0_0 l0_1 l0_2 a1 = some r) :
  Calls Try.prog 37 #[.agg #[.slice A0_0 l0_0.length c0_0, .slice A0_1 l0_1.length c0_1, .slice A0_2 l0_2.length c0_2], .int .i64 a1] w fun e w' => e = .returned (.int .i64 r) ∧ Below w.heap.size w w' := by
 have hu40 := Try.underlying40
 have HR0_0 := Aside0.mk hr0_0
 have HC0_0 := Aside0.mk hc0_0
 clear hr0_0 hc0_0
 have HR0_1 := Aside0.mk hr0_1
 have HC0_1 := Aside0.mk hc0_1
 clear hr0_1 hc0_1
 have HR0_2 := Aside0.mk hr0_2
 have HC0_2 := Aside0.mk hc0_2
 clear hr0_2 hc0_2
 have HB := Aside0.mk (Below.refl w.heap.size w)
 have H : ((spec_l01In.f a1 0 (wrap64 ((l0_0.length : Int) - 1))).bind fun t354 => (if t354 = true then ((spec_l05Deeps.f k l0_0 l0_1 l0_2).bind fun t355 => (if 0 ≤ a1 then (if a1 < (t355.length : Int) then (some (rd t355 a1)) else (none)) else (none))) else (some 0))) = some r := h
 clear h
 obtain ⟨t354, A3, H⟩ := Bo_ H
 by_cases c4 : t354 = true
 ·subst c4
  rw [if_pos rfl] at H
  obtain ⟨t355, A5, H⟩ := Bo_ H
  by_cases c6 : 0 ≤ a1
  ·rw [if_pos c6] at H
   have c6b0 := decide_eq_true c6
   clear c6
   by_cases c7 : a1 < (t355.length : Int)
   ·rw [if_pos c7] at H
    have c7b0 := decide_eq_true c7
    clear c7
    obtain rfl := Option.some.inj H
    go_enter Try.func37, Try.ntmps37
    go_wp2_with (first | (refine Bv_ 2 #[.slice A0_0 l0_0.length c0_0, .slice A0_1 l0_1.length c0_1, .slice A0_2 l0_2.length c0_2] 40 ?_; intro gb353 hg w8 BK353 hb; have GW353 := Hg_ HB hg; replace HB := Hs_ HB hb; clear hb hg; obtain ⟨hcz9_0, hcz9_1, hcz9_2, hfz9_0, hfz9_1, hfz9_2⟩ := Bc3_ BK353) | (refine Gl_ (some 10) Try.func73 ((spec_l01In.calls a1 0 (wrap64 ((l0_0.length : Int) - 1)) true _ A3.out).mono ?_); rintro e w' ⟨rfl, ⟨nd, rfl⟩⟩; refine ⟨_, rfl, ?_⟩) | (refine Gl_ (some 13) Try.func83 ((spec_l05Deeps.calls k _ _ l0_0 _ _ l0_1 _ _ l0_2 t355 _ (Sh_ HR0_0 HB) HC0_0.out (Sh_ HR0_1 HB) HC0_1.out (Sh_ HR0_2 HB) HC0_2.out A5.out).mono ?_); rintro e w10 ⟨v356, rfl, ho0, hb⟩; refine ⟨_, rfl, ?_⟩; have HO357 := Aside0.mk (Kd.R_lower ho0 (below_size (Hf_ HB))); replace BK353 := Bb_ BK353 hb; replace HB := Hs_ HB hb; clear hb; (try clear ho0); obtain ⟨Ao11, co11, eo11⟩ := Kd.R_slice HO357.out; subst eo11; have p358 : 0 ≤ (a1 : Int) := of_decide_eq_true As_; have q358 : a1 < (t355.length : Int) := of_decide_eq_true As_; obtain ⟨ad358, e358, hx358_0⟩ := Kd.at_int (Kd.R_reads' HO357.out).2.2 a1 p358 q358; cases e358; replace p358 := eq_true p358; replace q358 := eq_true q358))
    go_ret
    exact ⟨Re_, Hf_ HB⟩
   ·rw [if_neg c7] at H
    exact absurd H (by simp)
  ·rw [if_neg c6] at H
   exact absurd H (by simp)
 ·replace c4 := Bool.eq_false_iff.mpr c4
  subst c4
  rw [if_neg Ff_] at H
  obtain rfl := Option.some.inj H
  go_enter Try.func37, Try.ntmps37
  go_wp2_with (first | (refine Bv_ 2 #[.slice A0_0 l0_0.length c0_0, .slice A0_1 l0_1.length c0_1, .slice A0_2 l0_2.length c0_2] 40 ?_; intro gb353 hg w12 BK353 hb; have GW353 := Hg_ HB hg; replace HB := Hs_ HB hb; clear hb hg; obtain ⟨hcz13_0, hcz13_1, hcz13_2, hfz13_0, hfz13_1, hfz13_2⟩ := Bc3_ BK353) | (refine Gl_ (some 10) Try.func73 ((spec_l01In.calls a1 0 (wrap64 ((l0_0.length : Int) - 1)) false _ A3.out).mono ?_); rintro e w' ⟨rfl, ⟨nd, rfl⟩⟩; refine ⟨_, rfl, ?_⟩))
  go_ret
  exact ⟨Re_, Hf_ HB⟩

end Go.Proofs.Ytmbkcbgbienjoaa.PFnExactValueOf
