/- The machine side of the law FnExactNodeOk: for each function that it reaches, a Lean function and its contract. Written by a program of this session's over the kit's print. No condition. -/
import Derived.Test.YtmbkcbgbienjoaaCmp
import Derived.Test.YtmbkcbgbienjoaaPFnExactNodeOkx0
import Derived.Test.YtmbkcbgbienjoaaPFnExactNodeOkx2
import Derived.Test.YtmbkcbgbienjoaaPFnExactNodeOkx3
import Derived.Test.YtmbkcbgbienjoaaPFnExactNodeOkx7
import Derived.Test.YtmbkcbgbienjoaaPFnExactNodeOkx11
import Derived.Test.YtmbkcbgbienjoaaPFnExactNodeOkx12
import Derived.Test.YtmbkcbgbienjoaaPFnExactNodeOkx13
import Derived.Test.YtmbkcbgbienjoaaPFnExactNodeOkx15
namespace Go.Proofs.Ytmbkcbgbienjoaa.PFnExactNodeOk
open Go.RowKit Go.Proofs.YtmbkcbgbienjoaaW.PrintWords Go.Proofs.YtmbkcbgbienjoaaW.PrintLast Go.Proofs.YtmbkcbgbienjoaaW.PrintMore Go.Proofs.Ytmbkcbgbienjoaa.Cmp
attribute [local go_sem] max2_int min2_int max_two min_two max_three min_three max_four min_four   -- for this text's walks alone
set_option linter.unusedVariables false
set_option linter.unusedSimpArgs false

/-! ### impl_NodeOk: function 36 -/
mutual
def impl_NodeOk.j0 : Nat → Int → Bool → List (S77) → List (S106) → List (S103) → Int → Int → ByteArray → ByteArray → ByteArray → List Int → Option (Bool)
 | 0, _, _, _, _, _, _, _, _, _, _, _ => none
 | k + 1, x1, x26, x367000, x367001, x367002, x370000, x370001, x370002, x370003, x370004, x370005 => if x26 = true then (some false) else (impl_NodeOk.l0 k x1 x370005 (x370005.length : Int) 0 x367000 x367001 x367002 x370000 x370001 x370002 x370003 x370004 x370005)
def impl_NodeOk.l0 : Nat → Int → List Int → Int → Int → List (S77) → List (S106) → List (S103) → Int → Int → ByteArray → ByteArray → ByteArray → List Int → Option (Bool)
 | 0, _, _, _, _, _, _, _, _, _, _, _, _, _ => none
 | k + 1, x1, x28, x29, x30, x367000, x367001, x367002, x370000, x370001, x370002, x370003, x370004, x370005 => if x30 < x29 then (if 0 ≤ x30 then (if x30 < (x28.length : Int) then ((impl_within.f (rd x28 x30) 0 (wrap64 (x1 - 1))).bind fun t375 => (if t375 = true then (if x30 ≤ (x370005.length : Int) then ((slices_Contains_int_int.f k (x370005.take (x30 : Int).toNat) (rd x28 x30)).bind fun t377 => (if t377 = true then (some false) else (impl_NodeOk.l0 k x1 x28 x29 (wrap64 (x30 + 1)) x367000 x367001 x367002 x370000 x370001 x370002 x370003 x370004 x370005))) else (none)) else (some false))) else (none)) else (none)) else ((impl_kidsOk.f k x367000 x367001 x367002 x370000 x370001 x370002 x370003 x370004 x370005).bind fun t372 => (if t372 = true then ((impl_namesOk.f k x370000 x370001 x370002 x370003 x370004 x370005).bind fun t373 => (some t373)) else (some false)))
end
def impl_NodeOk.f (k : Nat) (l0_0 : List (S77)) (l0_1 : List (S106)) (l0_2 : List (S103)) (a1 : Int) : Option (Bool) := (impl_isNode.f l0_0 l0_1 l0_2 a1).bind fun t367 => (if t367 = true then (if 0 ≤ a1 then (if a1 < (l0_0.length : Int) then ((impl_within.f ((rd_T77 l0_0 a1).f0) 1 5).bind fun t370 => (if t370 = true then (impl_NodeOk.j0 k a1 false l0_0 l0_1 l0_2 ((rd_T77 l0_0 a1).f0) ((rd_T77 l0_0 a1).f1) ((rd_T77 l0_0 a1).f2) ((rd_T77 l0_0 a1).f3) ((rd_T77 l0_0 a1).f4) ((rd_T77 l0_0 a1).f5)) else ((impl_within.f ((rd_T77 l0_0 a1).f0) 11 20).bind fun t371 => (impl_NodeOk.j0 k a1 (!t371) l0_0 l0_1 l0_2 ((rd_T77 l0_0 a1).f0) ((rd_T77 l0_0 a1).f1) ((rd_T77 l0_0 a1).f2) ((rd_T77 l0_0 a1).f3) ((rd_T77 l0_0 a1).f4) ((rd_T77 l0_0 a1).f5))))) else (none)) else (none)) else (some false))
theorem impl_NodeOk.mono_l : ∀ k, (∀ y0 y1 y2 y3 y4 y5 y6 y7 y8 y9 y10, LeO (impl_NodeOk.j0 k y0 y1 y2 y3 y4 y5 y6 y7 y8 y9 y10) (impl_NodeOk.j0 (k + 1) y0 y1 y2 y3 y4 y5 y6 y7 y8 y9 y10)) ∧ (∀ y0 y1 y2 y3 y4 y5 y6 y7 y8 y9 y10 y11 y12, LeO (impl_NodeOk.l0 k y0 y1 y2 y3 y4 y5 y6 y7 y8 y9 y10 y11 y12) (impl_NodeOk.l0 (k + 1) y0 y1 y2 y3 y4 y5 y6 y7 y8 y9 y10 y11 y12))
 | 0 => ⟨fun _ _ _ _ _ _ _ _ _ _ _ r h => by simp [impl_NodeOk.j0] at h, fun _ _ _ _ _ _ _ _ _ _ _ _ _ r h => by simp [impl_NodeOk.l0] at h⟩
 | k + 1 => by
  obtain ⟨ih0, ih1⟩ := impl_NodeOk.mono_l k
  refine ⟨?_, ?_⟩
  ·intro y0 y1 y2 y3 y4 y5 y6 y7 y8 y9 y10
   unfold impl_NodeOk.j0
   repeat' first
   | (with_reducible exact ih0 _ _ _ _ _ _ _ _ _ _ _)
   | (with_reducible exact ih1 _ _ _ _ _ _ _ _ _ _ _ _ _)
   | (with_reducible exact impl_kidsOk.mono _ _ _ _ _ _ _ _ _ _)
   | (with_reducible exact impl_namesOk.mono _ _ _ _ _ _ _)
   | (with_reducible exact slices_Contains_int_int.mono _ _ _)
   | (with_reducible exact LeO.refl _)
   | (with_reducible exact LeO.none _)
   | (with_reducible refine LeO.ite ?_ ?_)
   | (with_reducible refine LeO.bind ?_ (fun _ => ?_))
   | exact ih0 _ _ _ _ _ _ _ _ _ _ _
   | exact ih1 _ _ _ _ _ _ _ _ _ _ _ _ _
   | exact impl_kidsOk.mono _ _ _ _ _ _ _ _ _ _
   | exact impl_namesOk.mono _ _ _ _ _ _ _
   | exact slices_Contains_int_int.mono _ _ _
   | exact LeO.none _
   | refine LeO.ite ?_ ?_
   | refine LeO.bind ?_ (fun _ => ?_)
  ·intro y0 y1 y2 y3 y4 y5 y6 y7 y8 y9 y10 y11 y12
   unfold impl_NodeOk.l0
   repeat' first
   | (with_reducible exact ih0 _ _ _ _ _ _ _ _ _ _ _)
   | (with_reducible exact ih1 _ _ _ _ _ _ _ _ _ _ _ _ _)
   | (with_reducible exact impl_kidsOk.mono _ _ _ _ _ _ _ _ _ _)
   | (with_reducible exact impl_namesOk.mono _ _ _ _ _ _ _)
   | (with_reducible exact slices_Contains_int_int.mono _ _ _)
   | (with_reducible exact LeO.refl _)
   | (with_reducible exact LeO.none _)
   | (with_reducible refine LeO.ite ?_ ?_)
   | (with_reducible refine LeO.bind ?_ (fun _ => ?_))
   | exact ih0 _ _ _ _ _ _ _ _ _ _ _
   | exact ih1 _ _ _ _ _ _ _ _ _ _ _ _ _
   | exact impl_kidsOk.mono _ _ _ _ _ _ _ _ _ _
   | exact impl_namesOk.mono _ _ _ _ _ _ _
   | exact slices_Contains_int_int.mono _ _ _
   | exact LeO.none _
   | refine LeO.ite ?_ ?_
   | refine LeO.bind ?_ (fun _ => ?_)
theorem impl_NodeOk.mono : ∀ a0 a1 a2 a3 k, LeO (impl_NodeOk.f k a0 a1 a2 a3) (impl_NodeOk.f (k + 1) a0 a1 a2 a3) := by
 intro a0 a1 a2 a3 k
 obtain ⟨ih0, ih1⟩ := impl_NodeOk.mono_l k
 unfold impl_NodeOk.f
 repeat' first
   | (with_reducible exact ih0 _ _ _ _ _ _ _ _ _ _ _)
   | (with_reducible exact ih1 _ _ _ _ _ _ _ _ _ _ _ _ _)
   | (with_reducible exact impl_kidsOk.mono _ _ _ _ _ _ _ _ _ _)
   | (with_reducible exact impl_namesOk.mono _ _ _ _ _ _ _)
   | (with_reducible exact slices_Contains_int_int.mono _ _ _)
   | (with_reducible exact LeO.refl _)
   | (with_reducible exact LeO.none _)
   | (with_reducible refine LeO.ite ?_ ?_)
   | (with_reducible refine LeO.bind ?_ (fun _ => ?_))
   | exact ih0 _ _ _ _ _ _ _ _ _ _ _
   | exact ih1 _ _ _ _ _ _ _ _ _ _ _ _ _
   | exact impl_kidsOk.mono _ _ _ _ _ _ _ _ _ _
   | exact impl_namesOk.mono _ _ _ _ _ _ _
   | exact slices_Contains_int_int.mono _ _ _
   | exact LeO.none _
   | refine LeO.ite ?_ ?_
   | refine LeO.bind ?_ (fun _ => ?_)
set_option maxHeartbeats 8000000 in
set_option maxRecDepth 100000 in
theorem impl_NodeOk.calls (k : Nat) (A0_0 : Option Addr) (c0_0 : Nat) (l0_0 : List (S77)) (A0_1 : Option Addr) (c0_1 : Nat) (l0_1 : List (S106)) (A0_2 : Option Addr) (c0_2 : Nat) (l0_2 : List (S103)) (a1 : Int) (r : Bool) (w : World) (hr0_0 : Kd.C k77 w A0_0 l0_0.length l0_0) (hc0_0 : l0_0.length ≤ c0_0) (hr0_1 : Kd.C k106 w A0_1 l0_1.length l0_1) (hc0_1 : l0_1.length ≤ c0_1) (hr0_2 : Kd.C k103 w A0_2 l0_2.length l0_2) (hc0_2 : l0_2.length ≤ c0_2) (h : impl_NodeOk.f k l0_0 l0_1 l0_2 a1 = some r) :
  Calls Try.prog 36 #[.agg #[.slice A0_0 l0_0.length c0_0, .slice A0_1 l0_1.length c0_1, .slice A0_2 l0_2.length c0_2], .int .i64 a1] w fun e w' => e = .returned (.bool r) ∧ Below w.heap.size w w' := by
 have hu40 := Try.underlying40
 have hu77 := Try.underlying77
 have HR0_0 := Aside0.mk hr0_0
 have HC0_0 := Aside0.mk hc0_0
 clear hr0_0 hc0_0
 have HR0_1 := Aside0.mk hr0_1
 have HC0_1 := Aside0.mk hc0_1
 clear hr0_1 hc0_1
 have HR0_2 := Aside0.mk hr0_2
 have HC0_2 := Aside0.mk hc0_2
 clear hr0_2 hc0_2
 have HB := Aside0.mk (Below.refl w.heap.size w)
 have H : ((impl_isNode.f l0_0 l0_1 l0_2 a1).bind fun t367 => (if t367 = true then (if 0 ≤ a1 then (if a1 < (l0_0.length : Int) then ((impl_within.f ((rd_T77 l0_0 a1).f0) 1 5).bind fun t370 => (if t370 = true then (impl_NodeOk.j0 k a1 false l0_0 l0_1 l0_2 ((rd_T77 l0_0 a1).f0) ((rd_T77 l0_0 a1).f1) ((rd_T77 l0_0 a1).f2) ((rd_T77 l0_0 a1).f3) ((rd_T77 l0_0 a1).f4) ((rd_T77 l0_0 a1).f5)) else ((impl_within.f ((rd_T77 l0_0 a1).f0) 11 20).bind fun t371 => (impl_NodeOk.j0 k a1 (!t371) l0_0 l0_1 l0_2 ((rd_T77 l0_0 a1).f0) ((rd_T77 l0_0 a1).f1) ((rd_T77 l0_0 a1).f2) ((rd_T77 l0_0 a1).f3) ((rd_T77 l0_0 a1).f4) ((rd_T77 l0_0 a1).f5))))) else (none)) else (none)) else (some false))) = some r := h
 clear h
 replace H := Option.bind_eq_some_iff.mp H
 obtain ⟨t367, A30, H⟩ := H
 replace H : (if t367 = true then (if 0 ≤ a1 then (if a1 < (l0_0.length : Int) then ((impl_within.f ((rd_T77 l0_0 a1).f0) 1 5).bind fun t370 => (if t370 = true then (impl_NodeOk.j0 k a1 false l0_0 l0_1 l0_2 ((rd_T77 l0_0 a1).f0) ((rd_T77 l0_0 a1).f1) ((rd_T77 l0_0 a1).f2) ((rd_T77 l0_0 a1).f3) ((rd_T77 l0_0 a1).f4) ((rd_T77 l0_0 a1).f5)) else ((impl_within.f ((rd_T77 l0_0 a1).f0) 11 20).bind fun t371 => (impl_NodeOk.j0 k a1 (!t371) l0_0 l0_1 l0_2 ((rd_T77 l0_0 a1).f0) ((rd_T77 l0_0 a1).f1) ((rd_T77 l0_0 a1).f2) ((rd_T77 l0_0 a1).f3) ((rd_T77 l0_0 a1).f4) ((rd_T77 l0_0 a1).f5))))) else (none)) else (none)) else (some false)) = some r := H
 have A3 := Aside0.mk A30
 clear A30
 by_cases c4 : t367 = true
 ·subst c4
  have H1 : (if 0 ≤ a1 then (if a1 < (l0_0.length : Int) then ((impl_within.f ((rd_T77 l0_0 a1).f0) 1 5).bind fun t370 => (if t370 = true then (impl_NodeOk.j0 k a1 false l0_0 l0_1 l0_2 ((rd_T77 l0_0 a1).f0) ((rd_T77 l0_0 a1).f1) ((rd_T77 l0_0 a1).f2) ((rd_T77 l0_0 a1).f3) ((rd_T77 l0_0 a1).f4) ((rd_T77 l0_0 a1).f5)) else ((impl_within.f ((rd_T77 l0_0 a1).f0) 11 20).bind fun t371 => (impl_NodeOk.j0 k a1 (!t371) l0_0 l0_1 l0_2 ((rd_T77 l0_0 a1).f0) ((rd_T77 l0_0 a1).f1) ((rd_T77 l0_0 a1).f2) ((rd_T77 l0_0 a1).f3) ((rd_T77 l0_0 a1).f4) ((rd_T77 l0_0 a1).f5))))) else (none)) else (none)) = some r := by rw [if_pos rfl] at H; exact H
  clear H
  have H := H1
  clear H1
  by_cases c5 : 0 ≤ a1
  ·rw [if_pos c5] at H
   have c5b0 : decide (0 ≤ a1) = true := decide_eq_true c5
   clear c5
   by_cases c6 : a1 < (l0_0.length : Int)
   ·rw [if_pos c6] at H
    have c6b0 : decide (a1 < (l0_0.length : Int)) = true := decide_eq_true c6
    clear c6
    have HC7 := Aside0.mk H
    clear H
    go_enter Try.func36, Try.ntmps36
    go_upto_region 4 with (first | ((with_reducible refine gate_dst (N := 2) rfl ?_); refine box_event ?hg (N := 2) ?hd (cs := #[.slice A0_0 l0_0.length c0_0, .slice A0_1 l0_1.length c0_1, .slice A0_2 l0_2.length c0_2]) (t := 40) ?hr ?_; (case hd => rfl); (case hg => rfl); (case hr => first | (go_simp; done) | (go_simp; rfl)); intro gb366 hg w8 hbox hb; have BK366 := Aside0.mk (hbox); have GW366 := Hg_ HB hg; have GE366 := GW366; replace HB := Hs_ HB hb; clear hb hbox hg; obtain ⟨hcz9_0, hcz9_1, hcz9_2, hfz9_0, hfz9_1, hfz9_2⟩ := Bc3_ BK366) | ((with_reducible refine gate_callee (f := 78) rfl ?_); refine goesL_ (some 10) rfl rfl Try.func78 (by kernel_rfl) rfl #[.agg #[.slice A0_0 l0_0.length c0_0, .slice A0_1 l0_1.length c0_1, .slice A0_2 l0_2.length c0_2], .int .i64 a1] rfl Mp_ ?_; (with_reducible refine (impl_isNode.calls _ _ l0_0 _ _ l0_1 _ _ l0_2 a1 true _ ?side1 ?side2 ?side3 ?side4 ?side5 ?side6 A3.out).mono ?_); (case side1 => exact Sc_ HR0_0 HB); (case side2 => exact HC0_0.out); (case side3 => exact Sc_ HR0_1 HB); (case side4 => exact HC0_1.out); (case side5 => exact Sc_ HR0_2 HB); (case side6 => exact HC0_2.out); rintro e w10 ⟨rfl, hb⟩; refine ⟨_, rfl, ?_⟩; replace BK366 := Bb_ BK366 hb; replace HB := Hs_ HB hb; (try clear hb); (try clear hb2); (try clear hk); (try clear hi); obtain ⟨hcz11_0, hcz11_1, hcz11_2, hfz11_0, hfz11_1, hfz11_2⟩ := Bc3_ BK366; have p368 : 0 ≤ (a1 : Int) := of_decide_eq_true As_; have q368 : a1 < (l0_0.length : Int) := of_decide_eq_true As_; obtain ⟨ad368, A368_5, c368_5, e368, hx368_0, hx368_1, hx368_2, hx368_3, hx368_4, hx368_5, hl368_5, hi368_5⟩ := at_T77 HR0_0.out a1 p368 q368; cases e368; replace hx368_0 := (HB.out.cell (World.block_lt_of_cell? w _ hx368_0)).trans hx368_0; replace hx368_1 := (HB.out.cell (World.block_lt_of_cell? w _ hx368_1)).trans hx368_1; replace hx368_2 := (HB.out.cell (World.block_lt_of_cell? w _ hx368_2)).trans hx368_2; replace hx368_3 := (HB.out.cell (World.block_lt_of_cell? w _ hx368_3)).trans hx368_3; replace hx368_4 := (HB.out.cell (World.block_lt_of_cell? w _ hx368_4)).trans hx368_4; replace hx368_5 := (HB.out.cell (World.block_lt_of_cell? w _ hx368_5)).trans hx368_5; have HR368_5 := Aside0.mk hi368_5; have HC368_5 := Aside0.mk hl368_5; clear hi368_5 hl368_5; replace p368 := eq_true p368; replace q368 := eq_true q368) | ((with_reducible refine gate_dst (N := 5) rfl ?_); refine box_event ?hg (N := 5) ?hd (cs := #[.int .i64 0, .int .i64 0, .string (⟨#[]⟩ : ByteArray), .string (⟨#[]⟩ : ByteArray), .string (⟨#[]⟩ : ByteArray), .slice none 0 0]) (t := 77) ?hr ?_; (case hd => rfl); (case hg => rfl); (case hr => first | (go_simp; done) | (go_simp; rfl)); intro gb369 hg w12 hbox hb; have BK369 := Aside0.mk (hbox); have GW369 := Hg_ HB hg; have GE369 := GW369; have NB366_369 := Bl_ BK366 hg; have NB369_366 := Bm_ NB366_369; replace BK366 := Bb_ BK366 hb; replace HB := Hs_ HB hb; clear hb hbox hg; have hnb13 := NB369_366.out; have hnc13 := NB366_369.out; obtain ⟨hcz14_0, hcz14_1, hcz14_2, hcz14_3, hcz14_4, hcz14_5, hfz14_0, hfz14_1, hfz14_2, hfz14_3, hfz14_4, hfz14_5⟩ := Bc6_ BK369))
    (try simp only [Act.put, List.setIfInBounds_toArray, List.set_cons_zero, List.set_cons_succ])
    go_cut [26] (fun v26 wc => ∃ (kq : Nat) (x26_6 : Bool), v26 = .bool x26_6 ∧ Aside0 (impl_NodeOk.j0 kq a1 x26_6 l0_0 l0_1 l0_2 ((rd_T77 l0_0 a1).f0) ((rd_T77 l0_0 a1).f1) ((rd_T77 l0_0 a1).f2) ((rd_T77 l0_0 a1).f3) ((rd_T77 l0_0 a1).f4) ((rd_T77 l0_0 a1).f5) = some r) ∧ Aside0 (kq ≤ k) ∧ Aside0 (wc.heap[gb366]? = some (.cells #[(.slice (some ad368) l0_0.length c0_0), (.slice A0_1 l0_1.length c0_1), (.slice A0_2 l0_2.length c0_2)] 40 (0, 0))) ∧ Aside0 (wc.heap[gb369]? = some (.cells #[.int .i64 ((rd_T77 l0_0 a1).f0), .int .i64 ((rd_T77 l0_0 a1).f1), .string ((rd_T77 l0_0 a1).f2), .string ((rd_T77 l0_0 a1).f3), .string ((rd_T77 l0_0 a1).f4), (.slice A368_5 ((rd_T77 l0_0 a1).f5).length c368_5)] 77 (0, 0))) ∧ Aside0 (Below w.heap.size w wc))
    case first =>
     have H := HC7.out
     clear HC7
     replace H := Option.bind_eq_some_iff.mp H
     obtain ⟨t370, A150, H⟩ := H
     replace H : (if t370 = true then (impl_NodeOk.j0 k a1 false l0_0 l0_1 l0_2 ((rd_T77 l0_0 a1).f0) ((rd_T77 l0_0 a1).f1) ((rd_T77 l0_0 a1).f2) ((rd_T77 l0_0 a1).f3) ((rd_T77 l0_0 a1).f4) ((rd_T77 l0_0 a1).f5)) else ((impl_within.f ((rd_T77 l0_0 a1).f0) 11 20).bind fun t371 => (impl_NodeOk.j0 k a1 (!t371) l0_0 l0_1 l0_2 ((rd_T77 l0_0 a1).f0) ((rd_T77 l0_0 a1).f1) ((rd_T77 l0_0 a1).f2) ((rd_T77 l0_0 a1).f3) ((rd_T77 l0_0 a1).f4) ((rd_T77 l0_0 a1).f5)))) = some r := H
     have A15 := Aside0.mk A150
     clear A150
     by_cases c16 : t370 = true
     ·subst c16
      have H1 : (impl_NodeOk.j0 k a1 false l0_0 l0_1 l0_2 ((rd_T77 l0_0 a1).f0) ((rd_T77 l0_0 a1).f1) ((rd_T77 l0_0 a1).f2) ((rd_T77 l0_0 a1).f3) ((rd_T77 l0_0 a1).f4) ((rd_T77 l0_0 a1).f5)) = some r := by rw [if_pos rfl] at H; exact H
      clear H
      have H := H1
      clear H1
      have H' := Aside0.mk H
      clear H
      have hnb17 := NB369_366.out
      have hnc17 := NB366_369.out
      obtain ⟨hcz18_0, hcz18_1, hcz18_2, hcz18_3, hcz18_4, hcz18_5, hfz18_0, hfz18_1, hfz18_2, hfz18_3, hfz18_4, hfz18_5⟩ := Bc6_ BK369
      go_wp2_with (first | ((with_reducible refine gate_callee (f := 79) rfl ?_); refine goesL_ (some 19) rfl rfl Try.func79 (by kernel_rfl) rfl #[.int .i64 ((rd_T77 l0_0 a1).f0), .int .i64 1, .int .i64 5] rfl Mp_ ?_; (with_reducible refine (impl_within.calls ((rd_T77 l0_0 a1).f0) 1 5 true _ A15.out).mono ?_); rintro e w' ⟨rfl, ⟨nd, rfl⟩⟩; refine ⟨_, rfl, ?_⟩))
      go_meet
      case rel => exact ⟨_, (false), Rr_, H', ⟨by first | omega | exact Nat.le_refl _⟩, ⟨by (with_reducible repeat (first | refine blk_drewN ?_ _ | refine blk_drew ?_ | refine blk_alloc ?_ _)); refine blk_far ?_ NB366_369.out _; (with_reducible repeat (first | refine blk_drewN ?_ _ | refine blk_drew ?_ | refine blk_alloc ?_ _)); refine blk_far ?_ NB366_369.out _; (with_reducible repeat (first | refine blk_drewN ?_ _ | refine blk_drew ?_ | refine blk_alloc ?_ _)); refine blk_far ?_ NB366_369.out _; (with_reducible repeat (first | refine blk_drewN ?_ _ | refine blk_drew ?_ | refine blk_alloc ?_ _)); refine blk_far ?_ NB366_369.out _; (with_reducible repeat (first | refine blk_drewN ?_ _ | refine blk_drew ?_ | refine blk_alloc ?_ _)); refine blk_far ?_ NB366_369.out _; (with_reducible repeat (first | refine blk_drewN ?_ _ | refine blk_drew ?_ | refine blk_alloc ?_ _)); refine blk_far ?_ NB366_369.out _; (with_reducible repeat (first | refine blk_drewN ?_ _ | refine blk_drew ?_ | refine blk_alloc ?_ _)); exact BK366.out⟩, ⟨by (with_reducible repeat (first | refine blk_drewN ?_ _ | refine blk_drew ?_ | refine blk_alloc ?_ _)); refine blk_put (cs := #[.int .i64 ((rd_T77 l0_0 a1).f0), .int .i64 ((rd_T77 l0_0 a1).f1), .string ((rd_T77 l0_0 a1).f2), .string ((rd_T77 l0_0 a1).f3), .string ((rd_T77 l0_0 a1).f4), .slice none 0 0]) ?_ 5 _ rfl; (with_reducible repeat (first | refine blk_drewN ?_ _ | refine blk_drew ?_ | refine blk_alloc ?_ _)); refine blk_put (cs := #[.int .i64 ((rd_T77 l0_0 a1).f0), .int .i64 ((rd_T77 l0_0 a1).f1), .string ((rd_T77 l0_0 a1).f2), .string ((rd_T77 l0_0 a1).f3), .string (⟨#[]⟩ : ByteArray), .slice none 0 0]) ?_ 4 _ rfl; (with_reducible repeat (first | refine blk_drewN ?_ _ | refine blk_drew ?_ | refine blk_alloc ?_ _)); refine blk_put (cs := #[.int .i64 ((rd_T77 l0_0 a1).f0), .int .i64 ((rd_T77 l0_0 a1).f1), .string ((rd_T77 l0_0 a1).f2), .string (⟨#[]⟩ : ByteArray), .string (⟨#[]⟩ : ByteArray), .slice none 0 0]) ?_ 3 _ rfl; (with_reducible repeat (first | refine blk_drewN ?_ _ | refine blk_drew ?_ | refine blk_alloc ?_ _)); refine blk_put (cs := #[.int .i64 ((rd_T77 l0_0 a1).f0), .int .i64 ((rd_T77 l0_0 a1).f1), .string (⟨#[]⟩ : ByteArray), .string (⟨#[]⟩ : ByteArray), .string (⟨#[]⟩ : ByteArray), .slice none 0 0]) ?_ 2 _ rfl; (with_reducible repeat (first | refine blk_drewN ?_ _ | refine blk_drew ?_ | refine blk_alloc ?_ _)); refine blk_put (cs := #[.int .i64 ((rd_T77 l0_0 a1).f0), .int .i64 0, .string (⟨#[]⟩ : ByteArray), .string (⟨#[]⟩ : ByteArray), .string (⟨#[]⟩ : ByteArray), .slice none 0 0]) ?_ 1 _ rfl; (with_reducible repeat (first | refine blk_drewN ?_ _ | refine blk_drew ?_ | refine blk_alloc ?_ _)); refine blk_put (cs := #[.int .i64 0, .int .i64 0, .string (⟨#[]⟩ : ByteArray), .string (⟨#[]⟩ : ByteArray), .string (⟨#[]⟩ : ByteArray), .slice none 0 0]) ?_ 0 _ rfl; (with_reducible repeat (first | refine blk_drewN ?_ _ | refine blk_drew ?_ | refine blk_alloc ?_ _)); exact BK369.out⟩, ⟨Hf_ HB⟩⟩
     ·replace c16 := Bool.eq_false_iff.mpr c16
      subst c16
      have H1 : ((impl_within.f ((rd_T77 l0_0 a1).f0) 11 20).bind fun t371 => (impl_NodeOk.j0 k a1 (!t371) l0_0 l0_1 l0_2 ((rd_T77 l0_0 a1).f0) ((rd_T77 l0_0 a1).f1) ((rd_T77 l0_0 a1).f2) ((rd_T77 l0_0 a1).f3) ((rd_T77 l0_0 a1).f4) ((rd_T77 l0_0 a1).f5))) = some r := by rw [if_neg (show ¬ (false = true) by decide)] at H; exact H
      clear H
      have H := H1
      clear H1
      replace H := Option.bind_eq_some_iff.mp H
      obtain ⟨t371, A190, H⟩ := H
      replace H : (impl_NodeOk.j0 k a1 (!t371) l0_0 l0_1 l0_2 ((rd_T77 l0_0 a1).f0) ((rd_T77 l0_0 a1).f1) ((rd_T77 l0_0 a1).f2) ((rd_T77 l0_0 a1).f3) ((rd_T77 l0_0 a1).f4) ((rd_T77 l0_0 a1).f5)) = some r := H
      have A19 := Aside0.mk A190
      clear A190
      have H' := Aside0.mk H
      clear H
      have hnb20 := NB369_366.out
      have hnc20 := NB366_369.out
      obtain ⟨hcz21_0, hcz21_1, hcz21_2, hcz21_3, hcz21_4, hcz21_5, hfz21_0, hfz21_1, hfz21_2, hfz21_3, hfz21_4, hfz21_5⟩ := Bc6_ BK369
      go_wp2_with (first | ((with_reducible refine gate_callee (f := 79) rfl ?_); refine goesL_ (some 19) rfl rfl Try.func79 (by kernel_rfl) rfl #[.int .i64 ((rd_T77 l0_0 a1).f0), .int .i64 1, .int .i64 5] rfl Mp_ ?_; (with_reducible refine (impl_within.calls ((rd_T77 l0_0 a1).f0) 1 5 false _ A15.out).mono ?_); rintro e w' ⟨rfl, ⟨nd, rfl⟩⟩; refine ⟨_, rfl, ?_⟩) | (go_at_call 79; (with_reducible refine (impl_within.calls ((rd_T77 l0_0 a1).f0) 11 20 t371 _ A19.out).mono ?_); rintro e w' ⟨rfl, ⟨nd, rfl⟩⟩))
      go_meet
      case rel => exact ⟨_, (!t371), Rr_, H', ⟨by first | omega | exact Nat.le_refl _⟩, ⟨by (with_reducible repeat (first | refine blk_drewN ?_ _ | refine blk_drew ?_ | refine blk_alloc ?_ _)); refine blk_far ?_ NB366_369.out _; (with_reducible repeat (first | refine blk_drewN ?_ _ | refine blk_drew ?_ | refine blk_alloc ?_ _)); refine blk_far ?_ NB366_369.out _; (with_reducible repeat (first | refine blk_drewN ?_ _ | refine blk_drew ?_ | refine blk_alloc ?_ _)); refine blk_far ?_ NB366_369.out _; (with_reducible repeat (first | refine blk_drewN ?_ _ | refine blk_drew ?_ | refine blk_alloc ?_ _)); refine blk_far ?_ NB366_369.out _; (with_reducible repeat (first | refine blk_drewN ?_ _ | refine blk_drew ?_ | refine blk_alloc ?_ _)); refine blk_far ?_ NB366_369.out _; (with_reducible repeat (first | refine blk_drewN ?_ _ | refine blk_drew ?_ | refine blk_alloc ?_ _)); refine blk_far ?_ NB366_369.out _; (with_reducible repeat (first | refine blk_drewN ?_ _ | refine blk_drew ?_ | refine blk_alloc ?_ _)); exact BK366.out⟩, ⟨by (with_reducible repeat (first | refine blk_drewN ?_ _ | refine blk_drew ?_ | refine blk_alloc ?_ _)); refine blk_put (cs := #[.int .i64 ((rd_T77 l0_0 a1).f0), .int .i64 ((rd_T77 l0_0 a1).f1), .string ((rd_T77 l0_0 a1).f2), .string ((rd_T77 l0_0 a1).f3), .string ((rd_T77 l0_0 a1).f4), .slice none 0 0]) ?_ 5 _ rfl; (with_reducible repeat (first | refine blk_drewN ?_ _ | refine blk_drew ?_ | refine blk_alloc ?_ _)); refine blk_put (cs := #[.int .i64 ((rd_T77 l0_0 a1).f0), .int .i64 ((rd_T77 l0_0 a1).f1), .string ((rd_T77 l0_0 a1).f2), .string ((rd_T77 l0_0 a1).f3), .string (⟨#[]⟩ : ByteArray), .slice none 0 0]) ?_ 4 _ rfl; (with_reducible repeat (first | refine blk_drewN ?_ _ | refine blk_drew ?_ | refine blk_alloc ?_ _)); refine blk_put (cs := #[.int .i64 ((rd_T77 l0_0 a1).f0), .int .i64 ((rd_T77 l0_0 a1).f1), .string ((rd_T77 l0_0 a1).f2), .string (⟨#[]⟩ : ByteArray), .string (⟨#[]⟩ : ByteArray), .slice none 0 0]) ?_ 3 _ rfl; (with_reducible repeat (first | refine blk_drewN ?_ _ | refine blk_drew ?_ | refine blk_alloc ?_ _)); refine blk_put (cs := #[.int .i64 ((rd_T77 l0_0 a1).f0), .int .i64 ((rd_T77 l0_0 a1).f1), .string (⟨#[]⟩ : ByteArray), .string (⟨#[]⟩ : ByteArray), .string (⟨#[]⟩ : ByteArray), .slice none 0 0]) ?_ 2 _ rfl; (with_reducible repeat (first | refine blk_drewN ?_ _ | refine blk_drew ?_ | refine blk_alloc ?_ _)); refine blk_put (cs := #[.int .i64 ((rd_T77 l0_0 a1).f0), .int .i64 0, .string (⟨#[]⟩ : ByteArray), .string (⟨#[]⟩ : ByteArray), .string (⟨#[]⟩ : ByteArray), .slice none 0 0]) ?_ 1 _ rfl; (with_reducible repeat (first | refine blk_drewN ?_ _ | refine blk_drew ?_ | refine blk_alloc ?_ _)); refine blk_put (cs := #[.int .i64 0, .int .i64 0, .string (⟨#[]⟩ : ByteArray), .string (⟨#[]⟩ : ByteArray), .string (⟨#[]⟩ : ByteArray), .slice none 0 0]) ?_ 0 _ rfl; (with_reducible repeat (first | refine blk_drewN ?_ _ | refine blk_drew ?_ | refine blk_alloc ?_ _)); exact BK369.out⟩, ⟨Hf_ HB⟩⟩
    case rest =>
     clear HC7
     try clear c1
     try clear c2
     try clear p2
     try clear c3
     try clear p3
     try clear q3
     try clear hx3
     try clear c4
     try clear c5
     try clear c5b0
     try clear c6
     try clear c6b0
     try clear c7
     try clear c13
     try clear c16
     try clear c17
     try clear c20
     try clear hcz11_0
     try clear hcz11_1
     try clear hcz11_2
     try clear hcz14_0
     try clear hcz14_1
     try clear hcz14_2
     try clear hcz14_3
     try clear hcz14_4
     try clear hcz14_5
     try clear hcz18_0
     try clear hcz18_1
     try clear hcz18_2
     try clear hcz18_3
     try clear hcz18_4
     try clear hcz18_5
     try clear hcz21_0
     try clear hcz21_1
     try clear hcz21_2
     try clear hcz21_3
     try clear hcz21_4
     try clear hcz21_5
     try clear hcz9_0
     try clear hcz9_1
     try clear hcz9_2
     try clear hfz11_0
     try clear hfz11_1
     try clear hfz11_2
     try clear hfz14_0
     try clear hfz14_1
     try clear hfz14_2
     try clear hfz14_3
     try clear hfz14_4
     try clear hfz14_5
     try clear hfz18_0
     try clear hfz18_1
     try clear hfz18_2
     try clear hfz18_3
     try clear hfz18_4
     try clear hfz18_5
     try clear hfz21_0
     try clear hfz21_1
     try clear hfz21_2
     try clear hfz21_3
     try clear hfz21_4
     try clear hfz21_5
     try clear hfz9_0
     try clear hfz9_1
     try clear hfz9_2
     try clear hx368_0
     try clear hx368_1
     try clear hx368_2
     try clear hx368_3
     try clear hx368_4
     try clear hx368_5
     try clear p368
     try clear q368
     obtain ⟨kq, x26_6, rfl, HA, HJ6, BK366, BK369, HB⟩ := hcut
     cases kq with
     | zero => exact absurd HA.out (by simp [impl_NodeOk.j0])
     | succ kj6 =>
      have H := HA.out
      clear HA
      simp only [impl_NodeOk.j0] at H
      by_cases c22 : x26_6 = true
      ·subst c22
       have H1 : (some false) = some r := by rw [if_pos rfl] at H; exact H
       clear H
       have H := H1
       clear H1
       obtain rfl := Option.some.inj H
       go_wp2
       go_ret
       exact ⟨Re_, Hf_ HB⟩
      ·replace c22 := Bool.eq_false_iff.mpr c22
       subst c22
       have H1 : (impl_NodeOk.l0 kj6 a1 ((rd_T77 l0_0 a1).f5) (((rd_T77 l0_0 a1).f5).length : Int) 0 l0_0 l0_1 l0_2 ((rd_T77 l0_0 a1).f0) ((rd_T77 l0_0 a1).f1) ((rd_T77 l0_0 a1).f2) ((rd_T77 l0_0 a1).f3) ((rd_T77 l0_0 a1).f4) ((rd_T77 l0_0 a1).f5)) = some r := by rw [if_neg (show ¬ (false = true) by decide)] at H; exact H
       clear H
       have H := H1
       clear H1
       have H' := Aside0.mk H
       clear H
       have hnb23 := NB369_366.out
       have hnc23 := NB366_369.out
       obtain ⟨hcz24_0, hcz24_1, hcz24_2, hcz24_3, hcz24_4, hcz24_5, hfz24_0, hfz24_1, hfz24_2, hfz24_3, hfz24_4, hfz24_5⟩ := Bc6_ BK369
       go_wp2
       go_loopg [30] kj6 (fun kq v30 w' => ∃ (x30_2 : Int), v30 = .int .i64 x30_2 ∧ Aside0 (impl_NodeOk.l0 kq a1 ((rd_T77 l0_0 a1).f5) (((rd_T77 l0_0 a1).f5).length : Int) x30_2 l0_0 l0_1 l0_2 ((rd_T77 l0_0 a1).f0) ((rd_T77 l0_0 a1).f1) ((rd_T77 l0_0 a1).f2) ((rd_T77 l0_0 a1).f3) ((rd_T77 l0_0 a1).f4) ((rd_T77 l0_0 a1).f5) = some r) ∧ Aside0 (kq ≤ kj6) ∧ Aside0 (w'.heap[gb366]? = some (.cells #[(.slice (some ad368) l0_0.length c0_0), (.slice A0_1 l0_1.length c0_1), (.slice A0_2 l0_2.length c0_2)] 40 (0, 0))) ∧ Aside0 (w'.heap[gb369]? = some (.cells #[.int .i64 ((rd_T77 l0_0 a1).f0), .int .i64 ((rd_T77 l0_0 a1).f1), .string ((rd_T77 l0_0 a1).f2), .string ((rd_T77 l0_0 a1).f3), .string ((rd_T77 l0_0 a1).f4), (.slice A368_5 ((rd_T77 l0_0 a1).f5).length c368_5)] 77 (0, 0))) ∧ Aside0 (Below w.heap.size w w'))
       case atStart => exact ⟨(0), Rr_, H', ⟨Nat.le_refl _⟩, ⟨Bq_ BK366⟩, ⟨Bq_ BK369⟩, ⟨Hf_ HB⟩⟩
       case round =>
        clear H'
        try clear c1
        try clear c2
        try clear p2
        try clear c3
        try clear p3
        try clear q3
        try clear hx3
        try clear c4
        try clear c5
        try clear c5b0
        try clear c6
        try clear c6b0
        try clear c7
        try clear c13
        try clear c16
        try clear c17
        try clear c20
        try clear c22
        try clear c23
        try clear hcz11_0
        try clear hcz11_1
        try clear hcz11_2
        try clear hcz14_0
        try clear hcz14_1
        try clear hcz14_2
        try clear hcz14_3
        try clear hcz14_4
        try clear hcz14_5
        try clear hcz18_0
        try clear hcz18_1
        try clear hcz18_2
        try clear hcz18_3
        try clear hcz18_4
        try clear hcz18_5
        try clear hcz21_0
        try clear hcz21_1
        try clear hcz21_2
        try clear hcz21_3
        try clear hcz21_4
        try clear hcz21_5
        try clear hcz24_0
        try clear hcz24_1
        try clear hcz24_2
        try clear hcz24_3
        try clear hcz24_4
        try clear hcz24_5
        try clear hcz9_0
        try clear hcz9_1
        try clear hcz9_2
        try clear hfz11_0
        try clear hfz11_1
        try clear hfz11_2
        try clear hfz14_0
        try clear hfz14_1
        try clear hfz14_2
        try clear hfz14_3
        try clear hfz14_4
        try clear hfz14_5
        try clear hfz18_0
        try clear hfz18_1
        try clear hfz18_2
        try clear hfz18_3
        try clear hfz18_4
        try clear hfz18_5
        try clear hfz21_0
        try clear hfz21_1
        try clear hfz21_2
        try clear hfz21_3
        try clear hfz21_4
        try clear hfz21_5
        try clear hfz24_0
        try clear hfz24_1
        try clear hfz24_2
        try clear hfz24_3
        try clear hfz24_4
        try clear hfz24_5
        try clear hfz9_0
        try clear hfz9_1
        try clear hfz9_2
        try clear hx368_0
        try clear hx368_1
        try clear hx368_2
        try clear hx368_3
        try clear hx368_4
        try clear hx368_5
        try clear p2
        try clear p3
        try clear p368
        try clear q3
        try clear q368
        obtain ⟨x30_2, rfl, HA, HK2, BK366, BK369, HB⟩ := hrel
        cases gk with
        | zero => exact absurd HA.out (by simp [impl_NodeOk.l0])
        | succ k2 =>
         have H := HA.out
         clear HA
         simp only [impl_NodeOk.l0] at H
         by_cases c25 : x30_2 < (((rd_T77 l0_0 a1).f5).length : Int)
         ·rw [if_pos c25] at H
          have c25b0 : decide (x30_2 < (((rd_T77 l0_0 a1).f5).length : Int)) = true := decide_eq_true c25
          clear c25
          by_cases c26 : 0 ≤ x30_2
          ·rw [if_pos c26] at H
           have c26b0 : decide (0 ≤ x30_2) = true := decide_eq_true c26
           clear c26
           by_cases c27 : x30_2 < (((rd_T77 l0_0 a1).f5).length : Int)
           ·rw [if_pos c27] at H
            have c27b0 : decide (x30_2 < (((rd_T77 l0_0 a1).f5).length : Int)) = true := decide_eq_true c27
            clear c27
            replace H := Option.bind_eq_some_iff.mp H
            obtain ⟨t375, A280, H⟩ := H
            replace H : (if t375 = true then (if x30_2 ≤ (((rd_T77 l0_0 a1).f5).length : Int) then ((slices_Contains_int_int.f k2 (((rd_T77 l0_0 a1).f5).take (x30_2 : Int).toNat) (rd ((rd_T77 l0_0 a1).f5) x30_2)).bind fun t377 => (if t377 = true then (some false) else (impl_NodeOk.l0 k2 a1 ((rd_T77 l0_0 a1).f5) (((rd_T77 l0_0 a1).f5).length : Int) (wrap64 (x30_2 + 1)) l0_0 l0_1 l0_2 ((rd_T77 l0_0 a1).f0) ((rd_T77 l0_0 a1).f1) ((rd_T77 l0_0 a1).f2) ((rd_T77 l0_0 a1).f3) ((rd_T77 l0_0 a1).f4) ((rd_T77 l0_0 a1).f5)))) else (none)) else (some false)) = some r := H
            have A28 := Aside0.mk A280
            clear A280
            by_cases c29 : t375 = true
            ·subst c29
             have H1 : (if x30_2 ≤ (((rd_T77 l0_0 a1).f5).length : Int) then ((slices_Contains_int_int.f k2 (((rd_T77 l0_0 a1).f5).take (x30_2 : Int).toNat) (rd ((rd_T77 l0_0 a1).f5) x30_2)).bind fun t377 => (if t377 = true then (some false) else (impl_NodeOk.l0 k2 a1 ((rd_T77 l0_0 a1).f5) (((rd_T77 l0_0 a1).f5).length : Int) (wrap64 (x30_2 + 1)) l0_0 l0_1 l0_2 ((rd_T77 l0_0 a1).f0) ((rd_T77 l0_0 a1).f1) ((rd_T77 l0_0 a1).f2) ((rd_T77 l0_0 a1).f3) ((rd_T77 l0_0 a1).f4) ((rd_T77 l0_0 a1).f5)))) else (none)) = some r := by rw [if_pos rfl] at H; exact H
             clear H
             have H := H1
             clear H1
             have c30b0 := eq_true (of_decide_eq_true As_ : 0 ≤ x30_2)
             by_cases c31 : x30_2 ≤ (((rd_T77 l0_0 a1).f5).length : Int)
             ·rw [if_pos c31] at H
              have c31b0 := eq_true c31
              have c31b1 : decide (x30_2 ≤ (((rd_T77 l0_0 a1).f5).length : Int)) = true := decide_eq_true c31
              clear c31
              replace H := Option.bind_eq_some_iff.mp H
              obtain ⟨t377, A320, H⟩ := H
              replace H : (if t377 = true then (some false) else (impl_NodeOk.l0 k2 a1 ((rd_T77 l0_0 a1).f5) (((rd_T77 l0_0 a1).f5).length : Int) (wrap64 (x30_2 + 1)) l0_0 l0_1 l0_2 ((rd_T77 l0_0 a1).f0) ((rd_T77 l0_0 a1).f1) ((rd_T77 l0_0 a1).f2) ((rd_T77 l0_0 a1).f3) ((rd_T77 l0_0 a1).f4) ((rd_T77 l0_0 a1).f5))) = some r := H
              have A32 := Aside0.mk A320
              clear A320
              by_cases c33 : t377 = true
              ·subst c33
               have H1 : (some false) = some r := by rw [if_pos rfl] at H; exact H
               clear H
               have H := H1
               clear H1
               obtain rfl := Option.some.inj H
               have p374 : 0 ≤ (x30_2 : Int) := of_decide_eq_true As_
               have q374 : x30_2 < (((rd_T77 l0_0 a1).f5).length : Int) := of_decide_eq_true As_
               obtain ⟨ad374, e374, hx374_0⟩ := Kd.at_int HR368_5.out x30_2 p374 q374
               cases e374
               replace hx374_0 := (HB.out.cell (World.block_lt_of_cell? w _ hx374_0)).trans hx374_0
               replace p374 := eq_true p374
               replace q374 := eq_true q374
               go_wp2_with (first | ((with_reducible refine gate_callee (f := 79) rfl ?_); refine goesL_ (some 38) rfl rfl Try.func79 (by kernel_rfl) rfl #[.int .i64 (rd ((rd_T77 l0_0 a1).f5) x30_2), .int .i64 0, .int .i64 (wrap64 (a1 - 1))] rfl Mp_ ?_; (with_reducible refine (impl_within.calls (rd ((rd_T77 l0_0 a1).f5) x30_2) 0 (wrap64 (a1 - 1)) true _ A28.out).mono ?_); rintro e w' ⟨rfl, ⟨nd, rfl⟩⟩; refine ⟨_, rfl, ?_⟩; have hnb34 := NB369_366.out; have hnc34 := NB366_369.out; obtain ⟨hcz35_0, hcz35_1, hcz35_2, hcz35_3, hcz35_4, hcz35_5, hfz35_0, hfz35_1, hfz35_2, hfz35_3, hfz35_4, hfz35_5⟩ := Bc6_ BK369; obtain ⟨i036, hi036, _, hsz36, _⟩ := info_parts info3; obtain ⟨hcut36, hA36, hC36⟩ := print_take_of (P := Try.prog) (Value.int .i64) 0 27 3 .i64 Try.underlying27 hi036 hsz36 (some ad374) c368_5 ((rd_T77 l0_0 a1).f5) x30_2 (of_decide_eq_true As_) (of_decide_eq_true As_) HC368_5.out; have HR376 := Aside0.mk (Kd.C_of_reads (h1 := fun _ => rfl) (hA36 _ (Kd.reads_of_C HR368_5.out))); have HC376 := Aside0.mk hC36; clear hA36 hC36 hi036 hsz36) | (go_at_call 80; refine calls_of_args (args' := #[.slice (some ad374) (((rd_T77 l0_0 a1).f5).take (x30_2 : Int).toNat).length c368_5, .int .i64 (rd ((rd_T77 l0_0 a1).f5) x30_2)]) (by first | (rw [show (((rd_T77 l0_0 a1).f5).take (x30_2 : Int).toNat).length = (x30_2 : Int).toNat from List.length_take_of_le (Int.toNat_le.2 (of_decide_eq_true As_))]; done) | (rw [show (((rd_T77 l0_0 a1).f5).take (x30_2 : Int).toNat).length = (x30_2 : Int).toNat from List.length_take_of_le (Int.toNat_le.2 (of_decide_eq_true As_))]; rfl) | rfl) ?_; (with_reducible refine (slices_Contains_int_int.calls k2 _ _ (((rd_T77 l0_0 a1).f5).take (x30_2 : Int).toNat) (rd ((rd_T77 l0_0 a1).f5) x30_2) true _ ?side1 ?side2 A32.out).mono ?_); (case side1 => exact Sh_ HR376 HB); (case side2 => exact HC376.out); rintro e w' ⟨rfl, ⟨nd, rfl⟩⟩))
               go_ret
               exact ⟨Re_, Hf_ HB⟩
              ·replace c33 := Bool.eq_false_iff.mpr c33
               subst c33
               have H1 : (impl_NodeOk.l0 k2 a1 ((rd_T77 l0_0 a1).f5) (((rd_T77 l0_0 a1).f5).length : Int) (wrap64 (x30_2 + 1)) l0_0 l0_1 l0_2 ((rd_T77 l0_0 a1).f0) ((rd_T77 l0_0 a1).f1) ((rd_T77 l0_0 a1).f2) ((rd_T77 l0_0 a1).f3) ((rd_T77 l0_0 a1).f4) ((rd_T77 l0_0 a1).f5)) = some r := by rw [if_neg (show ¬ (false = true) by decide)] at H; exact H
               clear H
               have H := H1
               clear H1
               have H' := Aside0.mk H
               clear H
               have p374 : 0 ≤ (x30_2 : Int) := of_decide_eq_true As_
               have q374 : x30_2 < (((rd_T77 l0_0 a1).f5).length : Int) := of_decide_eq_true As_
               obtain ⟨ad374, e374, hx374_0⟩ := Kd.at_int HR368_5.out x30_2 p374 q374
               cases e374
               replace hx374_0 := (HB.out.cell (World.block_lt_of_cell? w _ hx374_0)).trans hx374_0
               replace p374 := eq_true p374
               replace q374 := eq_true q374
               go_wp2_with (first | ((with_reducible refine gate_callee (f := 79) rfl ?_); refine goesL_ (some 38) rfl rfl Try.func79 (by kernel_rfl) rfl #[.int .i64 (rd ((rd_T77 l0_0 a1).f5) x30_2), .int .i64 0, .int .i64 (wrap64 (a1 - 1))] rfl Mp_ ?_; (with_reducible refine (impl_within.calls (rd ((rd_T77 l0_0 a1).f5) x30_2) 0 (wrap64 (a1 - 1)) true _ A28.out).mono ?_); rintro e w' ⟨rfl, ⟨nd, rfl⟩⟩; refine ⟨_, rfl, ?_⟩; have hnb37 := NB369_366.out; have hnc37 := NB366_369.out; obtain ⟨hcz38_0, hcz38_1, hcz38_2, hcz38_3, hcz38_4, hcz38_5, hfz38_0, hfz38_1, hfz38_2, hfz38_3, hfz38_4, hfz38_5⟩ := Bc6_ BK369; obtain ⟨i039, hi039, _, hsz39, _⟩ := info_parts info3; obtain ⟨hcut39, hA39, hC39⟩ := print_take_of (P := Try.prog) (Value.int .i64) 0 27 3 .i64 Try.underlying27 hi039 hsz39 (some ad374) c368_5 ((rd_T77 l0_0 a1).f5) x30_2 (of_decide_eq_true As_) (of_decide_eq_true As_) HC368_5.out; have HR376 := Aside0.mk (Kd.C_of_reads (h1 := fun _ => rfl) (hA39 _ (Kd.reads_of_C HR368_5.out))); have HC376 := Aside0.mk hC39; clear hA39 hC39 hi039 hsz39) | (go_at_call 80; refine calls_of_args (args' := #[.slice (some ad374) (((rd_T77 l0_0 a1).f5).take (x30_2 : Int).toNat).length c368_5, .int .i64 (rd ((rd_T77 l0_0 a1).f5) x30_2)]) (by first | (rw [show (((rd_T77 l0_0 a1).f5).take (x30_2 : Int).toNat).length = (x30_2 : Int).toNat from List.length_take_of_le (Int.toNat_le.2 (of_decide_eq_true As_))]; done) | (rw [show (((rd_T77 l0_0 a1).f5).take (x30_2 : Int).toNat).length = (x30_2 : Int).toNat from List.length_take_of_le (Int.toNat_le.2 (of_decide_eq_true As_))]; rfl) | rfl) ?_; (with_reducible refine (slices_Contains_int_int.calls k2 _ _ (((rd_T77 l0_0 a1).f5).take (x30_2 : Int).toNat) (rd ((rd_T77 l0_0 a1).f5) x30_2) false _ ?side1 ?side2 A32.out).mono ?_); (case side1 => exact Sh_ HR376 HB); (case side2 => exact HC376.out); rintro e w' ⟨rfl, ⟨nd, rfl⟩⟩))
               go_roundg k2
               case measure => have := HJ6.out; have := HK2.out; omega
               case rel => exact ⟨(wrap64 (x30_2 + 1)), Rr_, H', ⟨by have := HJ6.out; have := HK2.out; omega⟩, ⟨Bq_ BK366⟩, ⟨Bq_ BK369⟩, ⟨Hf_ HB⟩⟩
             ·rw [if_neg c31] at H
              exact absurd H (by simp)
            ·replace c29 := Bool.eq_false_iff.mpr c29
             subst c29
             have H1 : (some false) = some r := by rw [if_neg (show ¬ (false = true) by decide)] at H; exact H
             clear H
             have H := H1
             clear H1
             obtain rfl := Option.some.inj H
             have p374 : 0 ≤ (x30_2 : Int) := of_decide_eq_true As_
             have q374 : x30_2 < (((rd_T77 l0_0 a1).f5).length : Int) := of_decide_eq_true As_
             obtain ⟨ad374, e374, hx374_0⟩ := Kd.at_int HR368_5.out x30_2 p374 q374
             cases e374
             replace hx374_0 := (HB.out.cell (World.block_lt_of_cell? w _ hx374_0)).trans hx374_0
             replace p374 := eq_true p374
             replace q374 := eq_true q374
             go_wp2_with (first | ((with_reducible refine gate_callee (f := 79) rfl ?_); refine goesL_ (some 38) rfl rfl Try.func79 (by kernel_rfl) rfl #[.int .i64 (rd ((rd_T77 l0_0 a1).f5) x30_2), .int .i64 0, .int .i64 (wrap64 (a1 - 1))] rfl Mp_ ?_; (with_reducible refine (impl_within.calls (rd ((rd_T77 l0_0 a1).f5) x30_2) 0 (wrap64 (a1 - 1)) false _ A28.out).mono ?_); rintro e w' ⟨rfl, ⟨nd, rfl⟩⟩; refine ⟨_, rfl, ?_⟩))
             go_ret
             exact ⟨Re_, Hf_ HB⟩
           ·rw [if_neg c27] at H
            exact absurd H (by simp)
          ·rw [if_neg c26] at H
           exact absurd H (by simp)
         ·rw [if_neg c25] at H
          have c25b0 : decide (x30_2 < (((rd_T77 l0_0 a1).f5).length : Int)) = false := decide_eq_false c25
          clear c25
          replace H := Option.bind_eq_some_iff.mp H
          obtain ⟨t372, A400, H⟩ := H
          replace H : (if t372 = true then ((impl_namesOk.f k2 ((rd_T77 l0_0 a1).f0) ((rd_T77 l0_0 a1).f1) ((rd_T77 l0_0 a1).f2) ((rd_T77 l0_0 a1).f3) ((rd_T77 l0_0 a1).f4) ((rd_T77 l0_0 a1).f5)).bind fun t373 => (some t373)) else (some false)) = some r := H
          have A40 := Aside0.mk A400
          clear A400
          by_cases c41 : t372 = true
          ·subst c41
           have H1 : ((impl_namesOk.f k2 ((rd_T77 l0_0 a1).f0) ((rd_T77 l0_0 a1).f1) ((rd_T77 l0_0 a1).f2) ((rd_T77 l0_0 a1).f3) ((rd_T77 l0_0 a1).f4) ((rd_T77 l0_0 a1).f5)).bind fun t373 => (some t373)) = some r := by rw [if_pos rfl] at H; exact H
           clear H
           have H := H1
           clear H1
           replace H := Option.bind_eq_some_iff.mp H
           obtain ⟨t373, A420, H⟩ := H
           replace H : (some t373) = some r := H
           have A42 := Aside0.mk A420
           clear A420
           obtain rfl := Option.some.inj H
           have hnb43 := NB366_369.out
           have hnc43 := NB369_366.out
           obtain ⟨hcz44_0, hcz44_1, hcz44_2, hfz44_0, hfz44_1, hfz44_2⟩ := Bc3_ BK366
           obtain ⟨hcz45_0, hcz45_1, hcz45_2, hcz45_3, hcz45_4, hcz45_5, hfz45_0, hfz45_1, hfz45_2, hfz45_3, hfz45_4, hfz45_5⟩ := Bc6_ BK369
           go_wp2_with (first | ((with_reducible refine gate_callee (f := 81) rfl ?_); refine goesL_ (some 51) rfl rfl Try.func81 (by kernel_rfl) rfl #[.agg #[.slice (some ad368) l0_0.length c0_0, .slice A0_1 l0_1.length c0_1, .slice A0_2 l0_2.length c0_2], .agg #[.int .i64 ((rd_T77 l0_0 a1).f0), .int .i64 ((rd_T77 l0_0 a1).f1), .string ((rd_T77 l0_0 a1).f2), .string ((rd_T77 l0_0 a1).f3), .string ((rd_T77 l0_0 a1).f4), .slice A368_5 ((rd_T77 l0_0 a1).f5).length c368_5]] rfl Mp_ ?_; (with_reducible refine (impl_kidsOk.calls k2 _ _ l0_0 _ _ l0_1 _ _ l0_2 ((rd_T77 l0_0 a1).f0) ((rd_T77 l0_0 a1).f1) ((rd_T77 l0_0 a1).f2) ((rd_T77 l0_0 a1).f3) ((rd_T77 l0_0 a1).f4) _ _ ((rd_T77 l0_0 a1).f5) true _ ?side1 ?side2 ?side3 ?side4 ?side5 ?side6 ?side7 ?side8 A40.out).mono ?_); (case side1 => exact Sc_ HR0_0 HB); (case side2 => exact HC0_0.out); (case side3 => exact Sc_ HR0_1 HB); (case side4 => exact HC0_1.out); (case side5 => exact Sc_ HR0_2 HB); (case side6 => exact HC0_2.out); (case side7 => exact Sc_ HR368_5 HB); (case side8 => exact HC368_5.out); rintro e w46 ⟨rfl, hb⟩; refine ⟨_, rfl, ?_⟩; replace BK366 := Bb_ BK366 hb; replace BK369 := Bb_ BK369 hb; replace HB := Hs_ HB hb; (try clear hb); (try clear hb2); (try clear hk); (try clear hi); obtain ⟨hcz47_0, hcz47_1, hcz47_2, hcz47_3, hcz47_4, hcz47_5, hfz47_0, hfz47_1, hfz47_2, hfz47_3, hfz47_4, hfz47_5⟩ := Bc6_ BK369) | (go_at_call 82; (with_reducible refine (impl_namesOk.calls k2 ((rd_T77 l0_0 a1).f0) ((rd_T77 l0_0 a1).f1) ((rd_T77 l0_0 a1).f2) ((rd_T77 l0_0 a1).f3) ((rd_T77 l0_0 a1).f4) _ _ ((rd_T77 l0_0 a1).f5) t373 _ ?side1 ?side2 A42.out).mono ?_); (case side1 => exact Sc_ HR368_5 HB); (case side2 => exact HC368_5.out); rintro e w48 ⟨rfl, hb⟩; replace BK366 := Bb_ BK366 hb; replace BK369 := Bb_ BK369 hb; replace HB := Hs_ HB hb; (try clear hb); (try clear hb2); (try clear hk); (try clear hi)))
           go_ret
           exact ⟨Re_, Hf_ HB⟩
          ·replace c41 := Bool.eq_false_iff.mpr c41
           subst c41
           have H1 : (some false) = some r := by rw [if_neg (show ¬ (false = true) by decide)] at H; exact H
           clear H
           have H := H1
           clear H1
           obtain rfl := Option.some.inj H
           have hnb49 := NB366_369.out
           have hnc49 := NB369_366.out
           obtain ⟨hcz50_0, hcz50_1, hcz50_2, hfz50_0, hfz50_1, hfz50_2⟩ := Bc3_ BK366
           obtain ⟨hcz51_0, hcz51_1, hcz51_2, hcz51_3, hcz51_4, hcz51_5, hfz51_0, hfz51_1, hfz51_2, hfz51_3, hfz51_4, hfz51_5⟩ := Bc6_ BK369
           go_wp2_with (first | ((with_reducible refine gate_callee (f := 81) rfl ?_); refine goesL_ (some 51) rfl rfl Try.func81 (by kernel_rfl) rfl #[.agg #[.slice (some ad368) l0_0.length c0_0, .slice A0_1 l0_1.length c0_1, .slice A0_2 l0_2.length c0_2], .agg #[.int .i64 ((rd_T77 l0_0 a1).f0), .int .i64 ((rd_T77 l0_0 a1).f1), .string ((rd_T77 l0_0 a1).f2), .string ((rd_T77 l0_0 a1).f3), .string ((rd_T77 l0_0 a1).f4), .slice A368_5 ((rd_T77 l0_0 a1).f5).length c368_5]] rfl Mp_ ?_; (with_reducible refine (impl_kidsOk.calls k2 _ _ l0_0 _ _ l0_1 _ _ l0_2 ((rd_T77 l0_0 a1).f0) ((rd_T77 l0_0 a1).f1) ((rd_T77 l0_0 a1).f2) ((rd_T77 l0_0 a1).f3) ((rd_T77 l0_0 a1).f4) _ _ ((rd_T77 l0_0 a1).f5) false _ ?side1 ?side2 ?side3 ?side4 ?side5 ?side6 ?side7 ?side8 A40.out).mono ?_); (case side1 => exact Sc_ HR0_0 HB); (case side2 => exact HC0_0.out); (case side3 => exact Sc_ HR0_1 HB); (case side4 => exact HC0_1.out); (case side5 => exact Sc_ HR0_2 HB); (case side6 => exact HC0_2.out); (case side7 => exact Sc_ HR368_5 HB); (case side8 => exact HC368_5.out); rintro e w52 ⟨rfl, hb⟩; refine ⟨_, rfl, ?_⟩; replace BK366 := Bb_ BK366 hb; replace BK369 := Bb_ BK369 hb; replace HB := Hs_ HB hb; (try clear hb); (try clear hb2); (try clear hk); (try clear hi)))
           go_ret
           exact ⟨Re_, Hf_ HB⟩
   ·rw [if_neg c6] at H
    exact absurd H (by simp)
  ·rw [if_neg c5] at H
   exact absurd H (by simp)
 ·replace c4 := Bool.eq_false_iff.mpr c4
  subst c4
  have H1 : (some false) = some r := by rw [if_neg (show ¬ (false = true) by decide)] at H; exact H
  clear H
  have H := H1
  clear H1
  obtain rfl := Option.some.inj H
  go_enter Try.func36, Try.ntmps36
  go_wp2_with (first | ((with_reducible refine gate_dst (N := 2) rfl ?_); refine box_event ?hg (N := 2) ?hd (cs := #[.slice A0_0 l0_0.length c0_0, .slice A0_1 l0_1.length c0_1, .slice A0_2 l0_2.length c0_2]) (t := 40) ?hr ?_; (case hd => rfl); (case hg => rfl); (case hr => first | (go_simp; done) | (go_simp; rfl)); intro gb366 hg w53 hbox hb; have BK366 := Aside0.mk (hbox); have GW366 := Hg_ HB hg; have GE366 := GW366; replace HB := Hs_ HB hb; clear hb hbox hg; obtain ⟨hcz54_0, hcz54_1, hcz54_2, hfz54_0, hfz54_1, hfz54_2⟩ := Bc3_ BK366) | ((with_reducible refine gate_callee (f := 78) rfl ?_); refine goesL_ (some 10) rfl rfl Try.func78 (by kernel_rfl) rfl #[.agg #[.slice A0_0 l0_0.length c0_0, .slice A0_1 l0_1.length c0_1, .slice A0_2 l0_2.length c0_2], .int .i64 a1] rfl Mp_ ?_; (with_reducible refine (impl_isNode.calls _ _ l0_0 _ _ l0_1 _ _ l0_2 a1 false _ ?side1 ?side2 ?side3 ?side4 ?side5 ?side6 A3.out).mono ?_); (case side1 => exact Sc_ HR0_0 HB); (case side2 => exact HC0_0.out); (case side3 => exact Sc_ HR0_1 HB); (case side4 => exact HC0_1.out); (case side5 => exact Sc_ HR0_2 HB); (case side6 => exact HC0_2.out); rintro e w55 ⟨rfl, hb⟩; refine ⟨_, rfl, ?_⟩; replace BK366 := Bb_ BK366 hb; replace HB := Hs_ HB hb; (try clear hb); (try clear hb2); (try clear hk); (try clear hi)))
  go_ret
  exact ⟨Re_, Hf_ HB⟩

/-! ### laws_FnExactNodeOk: function 6 -/
def laws_FnExactNodeOk.f (k : Nat) (l0_0 : List (S113)) (l0_1 : List (S117)) (l0_2 : List (S119)) (a1 : Int) : Option (Bool) := (laws_szProgram.f k l0_0 l0_1 l0_2 1048576).bind fun t379 => (if t379 < 0 then (some true) else ((laws_toProgram.f k l0_0 l0_1 l0_2).bind fun bt380 => ((spec_NodeOk.f k bt380.1 bt380.2.1 bt380.2.2 a1).bind fun t389 => ((laws_toProgram.f k l0_0 l0_1 l0_2).bind fun bt390 => ((impl_NodeOk.f k bt390.1 bt390.2.1 bt390.2.2 a1).bind fun t400 => (if (t400 != t389) = true then (some false) else ((laws_toProgram.f k l0_0 l0_1 l0_2).bind fun bt401 => ((laws_eqProgram.f k bt390.1 bt390.2.1 bt390.2.2 bt401.1 bt401.2.1 bt401.2.2).bind fun t410 => (if t410 = true then (some true) else (some false))))))))))
theorem laws_FnExactNodeOk.mono : ∀ a0 a1 a2 a3 k, LeO (laws_FnExactNodeOk.f k a0 a1 a2 a3) (laws_FnExactNodeOk.f (k + 1) a0 a1 a2 a3) := by
 intro a0 a1 a2 a3 k
 unfold laws_FnExactNodeOk.f
 repeat' first
   | (with_reducible exact impl_NodeOk.mono _ _ _ _ _)
   | (with_reducible exact laws_eqProgram.mono _ _ _ _ _ _ _)
   | (with_reducible exact laws_szProgram.mono _ _ _ _ _)
   | (with_reducible exact laws_toProgram.mono _ _ _ _)
   | (with_reducible exact spec_NodeOk.mono _ _ _ _ _)
   | (with_reducible exact LeO.refl _)
   | (with_reducible exact LeO.none _)
   | (with_reducible refine LeO.ite ?_ ?_)
   | (with_reducible refine LeO.bind ?_ (fun _ => ?_))
   | exact impl_NodeOk.mono _ _ _ _ _
   | exact laws_eqProgram.mono _ _ _ _ _ _ _
   | exact laws_szProgram.mono _ _ _ _ _
   | exact laws_toProgram.mono _ _ _ _
   | exact spec_NodeOk.mono _ _ _ _ _
   | exact LeO.none _
   | refine LeO.ite ?_ ?_
   | refine LeO.bind ?_ (fun _ => ?_)
set_option maxHeartbeats 8000000 in
set_option maxRecDepth 100000 in
theorem laws_FnExactNodeOk.calls (k : Nat) (A0_0 : Option Addr) (c0_0 : Nat) (l0_0 : List (S113)) (A0_1 : Option Addr) (c0_1 : Nat) (l0_1 : List (S117)) (A0_2 : Option Addr) (c0_2 : Nat) (l0_2 : List (S119)) (a1 : Int) (r : Bool) (w : World) (hr0_0 : Kd.C k113 w A0_0 l0_0.length l0_0) (hc0_0 : l0_0.length ≤ c0_0) (hr0_1 : Kd.C k117 w A0_1 l0_1.length l0_1) (hc0_1 : l0_1.length ≤ c0_1) (hr0_2 : Kd.C k119 w A0_2 l0_2.length l0_2) (hc0_2 : l0_2.length ≤ c0_2) (hlaw_ : Aside0 (r = true)) (h : laws_FnExactNodeOk.f k l0_0 l0_1 l0_2 a1 = some r) :
  Calls Try.prog 6 #[.agg #[.slice A0_0 l0_0.length c0_0, .slice A0_1 l0_1.length c0_1, .slice A0_2 l0_2.length c0_2], .int .i64 a1] w fun e w' => e = .returned (.bool r) ∧ Below w.heap.size w w' := by
 have hu26 := Try.underlying26
 have hu40 := Try.underlying40
 have HR0_0 := Aside0.mk hr0_0
 have HC0_0 := Aside0.mk hc0_0
 clear hr0_0 hc0_0
 have HR0_1 := Aside0.mk hr0_1
 have HC0_1 := Aside0.mk hc0_1
 clear hr0_1 hc0_1
 have HR0_2 := Aside0.mk hr0_2
 have HC0_2 := Aside0.mk hc0_2
 clear hr0_2 hc0_2
 have HB := Aside0.mk (Below.refl w.heap.size w)
 have H : ((laws_szProgram.f k l0_0 l0_1 l0_2 1048576).bind fun t379 => (if t379 < 0 then (some true) else ((laws_toProgram.f k l0_0 l0_1 l0_2).bind fun bt380 => ((spec_NodeOk.f k bt380.1 bt380.2.1 bt380.2.2 a1).bind fun t389 => ((laws_toProgram.f k l0_0 l0_1 l0_2).bind fun bt390 => ((impl_NodeOk.f k bt390.1 bt390.2.1 bt390.2.2 a1).bind fun t400 => (if (t400 != t389) = true then (some false) else ((laws_toProgram.f k l0_0 l0_1 l0_2).bind fun bt401 => ((laws_eqProgram.f k bt390.1 bt390.2.1 bt390.2.2 bt401.1 bt401.2.1 bt401.2.2).bind fun t410 => (if t410 = true then (some true) else (some false))))))))))) = some r := h
 clear h
 replace H := Option.bind_eq_some_iff.mp H
 obtain ⟨t379, A30, H⟩ := H
 replace H : (if t379 < 0 then (some true) else ((laws_toProgram.f k l0_0 l0_1 l0_2).bind fun bt380 => ((spec_NodeOk.f k bt380.1 bt380.2.1 bt380.2.2 a1).bind fun t389 => ((laws_toProgram.f k l0_0 l0_1 l0_2).bind fun bt390 => ((impl_NodeOk.f k bt390.1 bt390.2.1 bt390.2.2 a1).bind fun t400 => (if (t400 != t389) = true then (some false) else ((laws_toProgram.f k l0_0 l0_1 l0_2).bind fun bt401 => ((laws_eqProgram.f k bt390.1 bt390.2.1 bt390.2.2 bt401.1 bt401.2.1 bt401.2.2).bind fun t410 => (if t410 = true then (some true) else (some false)))))))))) = some r := H
 have A3 := Aside0.mk A30
 clear A30
 by_cases c4 : t379 < 0
 ·rw [if_pos c4] at H
  have c4b0 : decide (t379 < 0) = true := decide_eq_true c4
  clear c4
  obtain rfl := Option.some.inj H
  go_enter Try.func6, Try.ntmps6
  go_wp2_with (first | ((with_reducible refine gate_dst (N := 2) rfl ?_); refine box_event ?hg (N := 2) ?hd (cs := #[.slice A0_0 l0_0.length c0_0, .slice A0_1 l0_1.length c0_1, .slice A0_2 l0_2.length c0_2]) (t := 26) ?hr ?_; (case hd => rfl); (case hg => rfl); (case hr => first | (go_simp; done) | (go_simp; rfl)); intro gb378 hg w5 hbox hb; have BK378 := Aside0.mk (hbox); have GW378 := Hg_ HB hg; have GE378 := GW378; replace HB := Hs_ HB hb; clear hb hbox hg; obtain ⟨hcz6_0, hcz6_1, hcz6_2, hfz6_0, hfz6_1, hfz6_2⟩ := Bc3_ BK378) | ((with_reducible refine gate_callee (f := 13) rfl ?_); refine goesL_ (some 11) rfl rfl Try.func13 (by kernel_rfl) rfl #[.agg #[.slice A0_0 l0_0.length c0_0, .slice A0_1 l0_1.length c0_1, .slice A0_2 l0_2.length c0_2], .int .i64 1048576] rfl Mp_ ?_; (with_reducible refine (laws_szProgram.calls k _ _ l0_0 _ _ l0_1 _ _ l0_2 1048576 t379 _ ?side1 ?side2 ?side3 ?side4 ?side5 ?side6 A3.out).mono ?_); (case side1 => exact Sc_ HR0_0 HB); (case side2 => exact HC0_0.out); (case side3 => exact Sc_ HR0_1 HB); (case side4 => exact HC0_1.out); (case side5 => exact Sc_ HR0_2 HB); (case side6 => exact HC0_2.out); rintro e w7 ⟨rfl, hb⟩; refine ⟨_, rfl, ?_⟩; replace BK378 := Bb_ BK378 hb; replace HB := Hs_ HB hb; (try clear hb); (try clear hb2); (try clear hk); (try clear hi)))
  go_ret
  exact ⟨Re_, Hf_ HB⟩
 ·rw [if_neg c4] at H
  have c4b0 : decide (t379 < 0) = false := decide_eq_false c4
  clear c4
  replace H := Option.bind_eq_some_iff.mp H
  obtain ⟨⟨t380, t383, t386⟩, A80, H⟩ := H
  replace H : ((spec_NodeOk.f k t380 t383 t386 a1).bind fun t389 => ((laws_toProgram.f k l0_0 l0_1 l0_2).bind fun bt390 => ((impl_NodeOk.f k bt390.1 bt390.2.1 bt390.2.2 a1).bind fun t400 => (if (t400 != t389) = true then (some false) else ((laws_toProgram.f k l0_0 l0_1 l0_2).bind fun bt401 => ((laws_eqProgram.f k bt390.1 bt390.2.1 bt390.2.2 bt401.1 bt401.2.1 bt401.2.2).bind fun t410 => (if t410 = true then (some true) else (some false)))))))) = some r := H
  have A8 := Aside0.mk A80
  clear A80
  replace H := Option.bind_eq_some_iff.mp H
  obtain ⟨t389, A90, H⟩ := H
  replace H : ((laws_toProgram.f k l0_0 l0_1 l0_2).bind fun bt390 => ((impl_NodeOk.f k bt390.1 bt390.2.1 bt390.2.2 a1).bind fun t400 => (if (t400 != t389) = true then (some false) else ((laws_toProgram.f k l0_0 l0_1 l0_2).bind fun bt401 => ((laws_eqProgram.f k bt390.1 bt390.2.1 bt390.2.2 bt401.1 bt401.2.1 bt401.2.2).bind fun t410 => (if t410 = true then (some true) else (some false))))))) = some r := H
  have A9 := Aside0.mk A90
  clear A90
  replace H := Option.bind_eq_some_iff.mp H
  obtain ⟨⟨t390, t393, t396⟩, A100, H⟩ := H
  replace H : ((impl_NodeOk.f k t390 t393 t396 a1).bind fun t400 => (if (t400 != t389) = true then (some false) else ((laws_toProgram.f k l0_0 l0_1 l0_2).bind fun bt401 => ((laws_eqProgram.f k t390 t393 t396 bt401.1 bt401.2.1 bt401.2.2).bind fun t410 => (if t410 = true then (some true) else (some false)))))) = some r := H
  have A10 := Aside0.mk A100
  clear A100
  replace H := Option.bind_eq_some_iff.mp H
  obtain ⟨t400, A110, H⟩ := H
  replace H : (if (t400 != t389) = true then (some false) else ((laws_toProgram.f k l0_0 l0_1 l0_2).bind fun bt401 => ((laws_eqProgram.f k t390 t393 t396 bt401.1 bt401.2.1 bt401.2.2).bind fun t410 => (if t410 = true then (some true) else (some false))))) = some r := H
  have A11 := Aside0.mk A110
  clear A110
  by_cases c12 : (t400 != t389) = true
  ·rw [if_pos c12] at H
   have c12b0 : (t400 != t389) = true := c12
   (try (have c12b1 : decide (t400 = t389) = false := by simpa using c12))
   (try (have c12b2 : (t400 == t389) = false := by simpa using c12))
   (try (have c12b3 : ¬ (t400 = t389) := by simpa using c12))
   clear c12
   exact absurd (Option.some.inj H) (by rw [hlaw_.out]; decide)
  ·rw [if_neg c12] at H
   have c12b0 : (t400 != t389) = false := by simpa using c12
   (try (have c12b1 : decide (t400 = t389) = true := by simpa using c12))
   (try (have c12b2 : (t400 == t389) = true := by simpa using c12))
   clear c12
   replace H := Option.bind_eq_some_iff.mp H
   obtain ⟨⟨t401, t404, t407⟩, A130, H⟩ := H
   replace H : ((laws_eqProgram.f k t390 t393 t396 t401 t404 t407).bind fun t410 => (if t410 = true then (some true) else (some false))) = some r := H
   have A13 := Aside0.mk A130
   clear A130
   replace H := Option.bind_eq_some_iff.mp H
   obtain ⟨t410, A140, H⟩ := H
   replace H : (if t410 = true then (some true) else (some false)) = some r := H
   have A14 := Aside0.mk A140
   clear A140
   by_cases c15 : t410 = true
   ·subst c15
    have H1 : (some true) = some r := by rw [if_pos rfl] at H; exact H
    clear H
    have H := H1
    clear H1
    obtain rfl := Option.some.inj H
    go_enter Try.func6, Try.ntmps6
    try go_wp2_with (first | ((with_reducible refine gate_dst (N := 2) rfl ?_); refine box_event ?hg (N := 2) ?hd (cs := #[.slice A0_0 l0_0.length c0_0, .slice A0_1 l0_1.length c0_1, .slice A0_2 l0_2.length c0_2]) (t := 26) ?hr ?_; (case hd => rfl); (case hg => rfl); (case hr => first | (go_simp; done) | (go_simp; rfl)); intro gb378 hg w16 hbox hb; have BK378 := Aside0.mk (hbox); have GW378 := Hg_ HB hg; have GE378 := GW378; replace HB := Hs_ HB hb; clear hb hbox hg; obtain ⟨hcz17_0, hcz17_1, hcz17_2, hfz17_0, hfz17_1, hfz17_2⟩ := Bc3_ BK378) | ((with_reducible refine gate_callee (f := 13) rfl ?_); refine goesL_ (some 11) rfl rfl Try.func13 (by kernel_rfl) rfl #[.agg #[.slice A0_0 l0_0.length c0_0, .slice A0_1 l0_1.length c0_1, .slice A0_2 l0_2.length c0_2], .int .i64 1048576] rfl Mp_ ?_; (with_reducible refine (laws_szProgram.calls k _ _ l0_0 _ _ l0_1 _ _ l0_2 1048576 t379 _ ?side1 ?side2 ?side3 ?side4 ?side5 ?side6 A3.out).mono ?_); (case side1 => exact Sc_ HR0_0 HB); (case side2 => exact HC0_0.out); (case side3 => exact Sc_ HR0_1 HB); (case side4 => exact HC0_1.out); (case side5 => exact Sc_ HR0_2 HB); (case side6 => exact HC0_2.out); rintro e w18 ⟨rfl, hb⟩; refine ⟨_, rfl, ?_⟩; replace BK378 := Bb_ BK378 hb; replace HB := Hs_ HB hb; (try clear hb); (try clear hb2); (try clear hk); (try clear hi); obtain ⟨hcz19_0, hcz19_1, hcz19_2, hfz19_0, hfz19_1, hfz19_2⟩ := Bc3_ BK378) | ((with_reducible refine gate_callee (f := 16) rfl ?_); refine goesL_ (some 15) rfl rfl Try.func16 (by kernel_rfl) rfl #[.agg #[.slice A0_0 l0_0.length c0_0, .slice A0_1 l0_1.length c0_1, .slice A0_2 l0_2.length c0_2]] rfl Mp_ ?_; (with_reducible refine (laws_toProgram.calls k _ _ l0_0 _ _ l0_1 _ _ l0_2 t380 t383 t386 _ ?side1 ?side2 ?side3 ?side4 ?side5 ?side6 A8.out).mono ?_); (case side1 => exact Sc_ HR0_0 HB); (case side2 => exact HC0_0.out); (case side3 => exact Sc_ HR0_1 HB); (case side4 => exact HC0_1.out); (case side5 => exact Sc_ HR0_2 HB); (case side6 => exact HC0_2.out); rintro e w20 ⟨v381, v384, v387, rfl, ho0, ho1, ho2, hb⟩; refine ⟨_, rfl, ?_⟩; have HO382 := Aside0.mk (Kd.S_lower ho0 (below_size (Hf_ HB))); have HO385 := Aside0.mk (Kd.S_lower ho1 (below_size (Hf_ HB))); have HO388 := Aside0.mk (Kd.S_lower ho2 (below_size (Hf_ HB))); replace BK378 := Bb_ BK378 hb; replace HB := Hs_ HB hb; (try clear hb); (try clear hb2); (try clear hk); (try clear hi); (try clear ho0); (try clear ho1); (try clear ho2); obtain ⟨Ao21, co21, eo21⟩ := Kd.S_slice HO382.out; subst eo21; obtain ⟨Ao22, co22, eo22⟩ := Kd.S_slice HO385.out; subst eo22; obtain ⟨Ao23, co23, eo23⟩ := Kd.S_slice HO388.out; subst eo23) | ((with_reducible refine gate_callee (f := 35) rfl ?_); refine goesL_ (some 17) rfl rfl Try.func35 (by kernel_rfl) rfl #[.agg #[.slice Ao21 t380.length co21, .slice Ao22 t383.length co22, .slice Ao23 t386.length co23], .int .i64 a1] rfl Mp_ ?_; (with_reducible refine (spec_NodeOk.calls k _ _ t380 _ _ t383 _ _ t386 a1 t389 _ ?side1 ?side2 ?side3 ?side4 ?side5 ?side6 A9.out).mono ?_); (case side1 => exact Cq_ (Kd.S_reads' HO382.out).2.2); (case side2 => exact (Kd.S_reads' HO382.out).2.1); (case side3 => exact Cq_ (Kd.S_reads' HO385.out).2.2); (case side4 => exact (Kd.S_reads' HO385.out).2.1); (case side5 => exact Cq_ (Kd.S_reads' HO388.out).2.2); (case side6 => exact (Kd.S_reads' HO388.out).2.1); rintro e w24 ⟨rfl, hb⟩; refine ⟨_, rfl, ?_⟩; replace HO382 := Sb_ HO382 hb; replace HO385 := Sb_ HO385 hb; replace HO388 := Sb_ HO388 hb; replace BK378 := Bb_ BK378 hb; replace HB := Hs_ HB hb; (try clear hb); (try clear hb2); (try clear hk); (try clear hi); obtain ⟨hcz25_0, hcz25_1, hcz25_2, hfz25_0, hfz25_1, hfz25_2⟩ := Bc3_ BK378) | ((with_reducible refine gate_callee (f := 16) rfl ?_); refine goesL_ (some 19) rfl rfl Try.func16 (by kernel_rfl) rfl #[.agg #[.slice A0_0 l0_0.length c0_0, .slice A0_1 l0_1.length c0_1, .slice A0_2 l0_2.length c0_2]] rfl Mp_ ?_; (with_reducible refine (laws_toProgram.calls k _ _ l0_0 _ _ l0_1 _ _ l0_2 t390 t393 t396 _ ?side1 ?side2 ?side3 ?side4 ?side5 ?side6 A10.out).mono ?_); (case side1 => exact Sc_ HR0_0 HB); (case side2 => exact HC0_0.out); (case side3 => exact Sc_ HR0_1 HB); (case side4 => exact HC0_1.out); (case side5 => exact Sc_ HR0_2 HB); (case side6 => exact HC0_2.out); rintro e w26 ⟨v391, v394, v397, rfl, ho0, ho1, ho2, hb⟩; refine ⟨_, rfl, ?_⟩; have HO392 := Aside0.mk (Kd.S_lower (Kd.S_new' ho0 (Kd.S_lt (by (with_reducible repeat (first | apply Kd.S_alloc | apply Kd.S_drewN | apply Kd.S_drew)); exact HO382.out))) (below_size (Hf_ HB))); have HO395 := Aside0.mk (Kd.S_lower (Kd.S_new' ho1 (Kd.S_lt (by (with_reducible repeat (first | apply Kd.S_alloc | apply Kd.S_drewN | apply Kd.S_drew)); exact HO385.out))) (below_size (Hf_ HB))); have HO398 := Aside0.mk (Kd.S_lower (Kd.S_new' ho2 (Kd.S_lt (by (with_reducible repeat (first | apply Kd.S_alloc | apply Kd.S_drewN | apply Kd.S_drew)); exact HO388.out))) (below_size (Hf_ HB))); replace HO382 := Aside0.mk (Kd.S_elder' (by (with_reducible repeat (first | apply Kd.S_alloc | apply Kd.S_drewN | apply Kd.S_drew)); exact HO382.out) (Kd.S_base ho0) hb); replace HO385 := Aside0.mk (Kd.S_elder' (by (with_reducible repeat (first | apply Kd.S_alloc | apply Kd.S_drewN | apply Kd.S_drew)); exact HO385.out) (Kd.S_base ho1) hb); replace HO388 := Aside0.mk (Kd.S_elder' (by (with_reducible repeat (first | apply Kd.S_alloc | apply Kd.S_drewN | apply Kd.S_drew)); exact HO388.out) (Kd.S_base ho2) hb); replace BK378 := Bb_ BK378 hb; replace HB := Hs_ HB hb; (try clear hb); (try clear hb2); (try clear hk); (try clear hi); (try clear ho0); (try clear ho1); (try clear ho2)) | ((with_reducible refine gate_dst (N := 7) rfl ?_); refine box_event ?hg (N := 7) ?hd (cs := #[.slice none 0 0, .slice none 0 0, .slice none 0 0]) (t := 40) ?hr ?_; (case hd => rfl); (case hg => rfl); (case hr => first | (go_simp; done) | (go_simp; rfl)); intro gb399 hg w27 hbox hb; have BK399 := Aside0.mk (hbox); have GW399 := Hg_ HB hg; have GE399 := GW399; have NB378_399 := Bl_ BK378 hg; have NB399_378 := Bm_ NB378_399; replace HO382 := Sb_ HO382 hb; replace HO385 := Sb_ HO385 hb; replace HO388 := Sb_ HO388 hb; replace HO392 := Sb_ HO392 hb; replace HO395 := Sb_ HO395 hb; replace HO398 := Sb_ HO398 hb; replace BK378 := Bb_ BK378 hb; replace HB := Hs_ HB hb; clear hb hbox hg; obtain ⟨Ao28, co28, eo28⟩ := Kd.S_slice HO392.out; subst eo28; have hnb29 := NB399_378.out; have hnc29 := NB378_399.out; obtain ⟨hcz30_0, hcz30_1, hcz30_2, hfz30_0, hfz30_1, hfz30_2⟩ := Bc3_ BK399; obtain ⟨Ao31, co31, eo31⟩ := Kd.S_slice HO395.out; subst eo31; obtain ⟨Ao32, co32, eo32⟩ := Kd.S_slice HO398.out; subst eo32) | ((with_reducible refine gate_callee (f := 36) rfl ?_); refine goesL_ (some 22) rfl rfl Try.func36 (by kernel_rfl) rfl #[.agg #[.slice Ao28 t390.length co28, .slice Ao31 t393.length co31, .slice Ao32 t396.length co32], .int .i64 a1] rfl Mp_ ?_; (with_reducible refine (impl_NodeOk.calls k _ _ t390 _ _ t393 _ _ t396 a1 t400 _ ?side1 ?side2 ?side3 ?side4 ?side5 ?side6 A11.out).mono ?_); (case side1 => refine (Kd.S_reads' (e := 77) (base := w.heap.size) (ok := fun k_ => (True ∧ some k_ ≠ (.slice Ao21 t380.length co21 : Value).ownBlock)) (n := t390.length) (c := co28) ?_).2.2; exact (by (with_reducible repeat (first | apply Kd.S_alloc | apply Kd.S_drewN | apply Kd.S_drew)); exact (Kd.S_mono (Kd.S_far (p := ⟨gb399, 2, none⟩) (Kd.S_far (p := ⟨gb399, 1, none⟩) (Kd.S_far (p := ⟨gb399, 0, none⟩) (Kd.S_types HO392.out BK399.out (by decide)) (fun _ hk => hk.2) (.slice Ao28 t390.length co28)) (fun _ hk => hk.2) (.slice Ao31 t393.length co31)) (fun _ hk => hk.2) (.slice Ao32 t396.length co32)) (fun _ h_ => h_.1)))); (case side2 => exact (Kd.S_reads' HO392.out).2.1); (case side3 => refine (Kd.S_reads' (e := 106) (base := w.heap.size) (ok := fun k_ => (True ∧ some k_ ≠ (.slice Ao22 t383.length co22 : Value).ownBlock)) (n := t393.length) (c := co31) ?_).2.2; exact (by (with_reducible repeat (first | apply Kd.S_alloc | apply Kd.S_drewN | apply Kd.S_drew)); exact (Kd.S_mono (Kd.S_far (p := ⟨gb399, 2, none⟩) (Kd.S_far (p := ⟨gb399, 1, none⟩) (Kd.S_far (p := ⟨gb399, 0, none⟩) (Kd.S_types HO395.out BK399.out (by decide)) (fun _ hk => hk.2) (.slice Ao28 t390.length co28)) (fun _ hk => hk.2) (.slice Ao31 t393.length co31)) (fun _ hk => hk.2) (.slice Ao32 t396.length co32)) (fun _ h_ => h_.1)))); (case side4 => exact (Kd.S_reads' HO395.out).2.1); (case side5 => refine (Kd.S_reads' (e := 103) (base := w.heap.size) (ok := fun k_ => (True ∧ some k_ ≠ (.slice Ao23 t386.length co23 : Value).ownBlock)) (n := t396.length) (c := co32) ?_).2.2; exact (by (with_reducible repeat (first | apply Kd.S_alloc | apply Kd.S_drewN | apply Kd.S_drew)); exact (Kd.S_mono (Kd.S_far (p := ⟨gb399, 2, none⟩) (Kd.S_far (p := ⟨gb399, 1, none⟩) (Kd.S_far (p := ⟨gb399, 0, none⟩) (Kd.S_types HO398.out BK399.out (by decide)) (fun _ hk => hk.2) (.slice Ao28 t390.length co28)) (fun _ hk => hk.2) (.slice Ao31 t393.length co31)) (fun _ hk => hk.2) (.slice Ao32 t396.length co32)) (fun _ h_ => h_.1)))); (case side6 => exact (Kd.S_reads' HO398.out).2.1); rintro e w33 ⟨rfl, hb⟩; refine ⟨_, rfl, ?_⟩; replace HO382 := Aside0.mk (Kd.S_below (by (with_reducible repeat (first | apply Kd.S_alloc | apply Kd.S_drewN | apply Kd.S_drew)); exact (Kd.S_mono (Kd.S_far (p := ⟨gb399, 2, none⟩) (Kd.S_far (p := ⟨gb399, 1, none⟩) (Kd.S_far (p := ⟨gb399, 0, none⟩) (Kd.S_types HO382.out BK399.out (by decide)) (fun _ hk => hk.2) (.slice Ao28 t390.length co28)) (fun _ hk => hk.2) (.slice Ao31 t393.length co31)) (fun _ hk => hk.2) (.slice Ao32 t396.length co32)) (fun _ h_ => h_.1))) hb); replace HO385 := Aside0.mk (Kd.S_below (by (with_reducible repeat (first | apply Kd.S_alloc | apply Kd.S_drewN | apply Kd.S_drew)); exact (Kd.S_mono (Kd.S_far (p := ⟨gb399, 2, none⟩) (Kd.S_far (p := ⟨gb399, 1, none⟩) (Kd.S_far (p := ⟨gb399, 0, none⟩) (Kd.S_types HO385.out BK399.out (by decide)) (fun _ hk => hk.2) (.slice Ao28 t390.length co28)) (fun _ hk => hk.2) (.slice Ao31 t393.length co31)) (fun _ hk => hk.2) (.slice Ao32 t396.length co32)) (fun _ h_ => h_.1))) hb); replace HO388 := Aside0.mk (Kd.S_below (by (with_reducible repeat (first | apply Kd.S_alloc | apply Kd.S_drewN | apply Kd.S_drew)); exact (Kd.S_mono (Kd.S_far (p := ⟨gb399, 2, none⟩) (Kd.S_far (p := ⟨gb399, 1, none⟩) (Kd.S_far (p := ⟨gb399, 0, none⟩) (Kd.S_types HO388.out BK399.out (by decide)) (fun _ hk => hk.2) (.slice Ao28 t390.length co28)) (fun _ hk => hk.2) (.slice Ao31 t393.length co31)) (fun _ hk => hk.2) (.slice Ao32 t396.length co32)) (fun _ h_ => h_.1))) hb); replace HO392 := Aside0.mk (Kd.S_below (by (with_reducible repeat (first | apply Kd.S_alloc | apply Kd.S_drewN | apply Kd.S_drew)); exact (Kd.S_mono (Kd.S_far (p := ⟨gb399, 2, none⟩) (Kd.S_far (p := ⟨gb399, 1, none⟩) (Kd.S_far (p := ⟨gb399, 0, none⟩) (Kd.S_types HO392.out BK399.out (by decide)) (fun _ hk => hk.2) (.slice Ao28 t390.length co28)) (fun _ hk => hk.2) (.slice Ao31 t393.length co31)) (fun _ hk => hk.2) (.slice Ao32 t396.length co32)) (fun _ h_ => h_.1))) hb); replace HO395 := Aside0.mk (Kd.S_below (by (with_reducible repeat (first | apply Kd.S_alloc | apply Kd.S_drewN | apply Kd.S_drew)); exact (Kd.S_mono (Kd.S_far (p := ⟨gb399, 2, none⟩) (Kd.S_far (p := ⟨gb399, 1, none⟩) (Kd.S_far (p := ⟨gb399, 0, none⟩) (Kd.S_types HO395.out BK399.out (by decide)) (fun _ hk => hk.2) (.slice Ao28 t390.length co28)) (fun _ hk => hk.2) (.slice Ao31 t393.length co31)) (fun _ hk => hk.2) (.slice Ao32 t396.length co32)) (fun _ h_ => h_.1))) hb); replace HO398 := Aside0.mk (Kd.S_below (by (with_reducible repeat (first | apply Kd.S_alloc | apply Kd.S_drewN | apply Kd.S_drew)); exact (Kd.S_mono (Kd.S_far (p := ⟨gb399, 2, none⟩) (Kd.S_far (p := ⟨gb399, 1, none⟩) (Kd.S_far (p := ⟨gb399, 0, none⟩) (Kd.S_types HO398.out BK399.out (by decide)) (fun _ hk => hk.2) (.slice Ao28 t390.length co28)) (fun _ hk => hk.2) (.slice Ao31 t393.length co31)) (fun _ hk => hk.2) (.slice Ao32 t396.length co32)) (fun _ h_ => h_.1))) hb); replace BK378 := Aside0.mk (blk_below (g := gb378) (o := .cells #[.slice A0_0 l0_0.length c0_0, .slice A0_1 l0_1.length c0_1, .slice A0_2 l0_2.length c0_2] 26 (0, 0)) (by (with_reducible repeat (first | refine blk_drewN ?_ _ | refine blk_drew ?_ | refine blk_alloc ?_ _)); refine blk_far ?_ NB378_399.out _; (with_reducible repeat (first | refine blk_drewN ?_ _ | refine blk_drew ?_ | refine blk_alloc ?_ _)); refine blk_far ?_ NB378_399.out _; (with_reducible repeat (first | refine blk_drewN ?_ _ | refine blk_drew ?_ | refine blk_alloc ?_ _)); refine blk_far ?_ NB378_399.out _; (with_reducible repeat (first | refine blk_drewN ?_ _ | refine blk_drew ?_ | refine blk_alloc ?_ _)); exact BK378.out) hb); replace BK399 := Aside0.mk (blk_below (g := gb399) (o := .cells #[.slice Ao28 t390.length co28, .slice Ao31 t393.length co31, .slice Ao32 t396.length co32] 40 (0, 0)) (by (with_reducible repeat (first | refine blk_drewN ?_ _ | refine blk_drew ?_ | refine blk_alloc ?_ _)); refine blk_put (cs := #[.slice Ao28 t390.length co28, .slice Ao31 t393.length co31, .slice none 0 0]) ?_ 2 _ rfl; (with_reducible repeat (first | refine blk_drewN ?_ _ | refine blk_drew ?_ | refine blk_alloc ?_ _)); refine blk_put (cs := #[.slice Ao28 t390.length co28, .slice none 0 0, .slice none 0 0]) ?_ 1 _ rfl; (with_reducible repeat (first | refine blk_drewN ?_ _ | refine blk_drew ?_ | refine blk_alloc ?_ _)); refine blk_put (cs := #[.slice none 0 0, .slice none 0 0, .slice none 0 0]) ?_ 0 _ rfl; (with_reducible repeat (first | refine blk_drewN ?_ _ | refine blk_drew ?_ | refine blk_alloc ?_ _)); exact BK399.out) hb); replace HB := Hs_ HB hb; (try clear hb); (try clear hb2); (try clear hk); (try clear hi)))
    replace HO382 := Aside0.mk (Kd.S_drew HO382.out); replace HO385 := Aside0.mk (Kd.S_drew HO385.out); replace HO388 := Aside0.mk (Kd.S_drew HO388.out); replace HO392 := Aside0.mk (Kd.S_drew HO392.out); replace HO395 := Aside0.mk (Kd.S_drew HO395.out); replace HO398 := Aside0.mk (Kd.S_drew HO398.out); replace BK378 := Aside0.mk (blk_drew BK378.out); replace BK399 := Aside0.mk (blk_drew BK399.out); replace HB := Aside0.mk (below_drew1 HB.out)
    refine start_ (n := 5) (S := fun w' => w'.cell? ⟨gb399, 0, none⟩ = some (.slice Ao28 t390.length co28) ∧ w'.cell? ⟨gb399, 1, none⟩ = some (.slice Ao31 t393.length co31) ∧ w'.cell? ⟨gb399, 2, none⟩ = some (.slice Ao32 t396.length co32) ∧ w'.cell? ⟨gb378, 0, none⟩ = some (.slice A0_0 l0_0.length c0_0) ∧ w'.cell? ⟨gb378, 1, none⟩ = some (.slice A0_1 l0_1.length c0_1) ∧ w'.cell? ⟨gb378, 2, none⟩ = some (.slice A0_2 l0_2.length c0_2)) (ds := []) #[false, false, false, false, false] (by kernel_rfl) rfl rfl ⟨(blk_cell BK399.out 0).trans rfl, (blk_cell BK399.out 1).trans rfl, (blk_cell BK399.out 2).trans rfl, (blk_cell BK378.out 0).trans rfl, (blk_cell BK378.out 1).trans rfl, (blk_cell BK378.out 2).trans rfl⟩ (fun hHeld => ?_)
    generalize w33.drew = w34 at HO382 HO385 HO388 HO392 HO395 HO398 BK378 BK399 HB hHeld ⊢
    refine take_ (i := 0) (N := some 26) (v := ?_) (a' := ?_) #[true, false, false, false, false] rfl rfl (by kernel_rfl) (fun _ _ _ h => h) (Or.inl ⟨by rfl, ?_⟩) hHeld ?_ ?_
    rotate_left
    ·rintro w' ⟨s0, s1, s2, s3, s4, s5⟩
     go_simp
     with_reducible rfl
    rotate_left
    ·simp only [Act.put, List.setIfInBounds_toArray, List.set_cons_zero, List.set_cons_succ, i64_w, i32_w]
     rfl
    refine take_ (i := 1) (N := some 27) (v := ?_) (a' := ?_) #[true, true, false, false, false] rfl rfl (by kernel_rfl) (fun _ _ _ h => h) (Or.inl ⟨by rfl, ?_⟩) hHeld ?_ ?_
    rotate_left
    ·rintro w' ⟨s0, s1, s2, s3, s4, s5⟩
     go_simp
     with_reducible rfl
    rotate_left
    ·simp only [Act.put, List.setIfInBounds_toArray, List.set_cons_zero, List.set_cons_succ, i64_w, i32_w]
     rfl
    refine one_ (i := 2) (N := some 28) #[true, true, true, false, false] rfl rfl (by kernel_rfl) (by decide) (fun K hK => ?_)
    refine goes_ Try.func16 (by kernel_rfl) rfl #[.agg #[.slice A0_0 l0_0.length c0_0, .slice A0_1 l0_1.length c0_1, .slice A0_2 l0_2.length c0_2]] (by rfl) rfl rfl Mp_ ?_
    with_reducible refine (laws_toProgram.calls k _ _ l0_0 _ _ l0_1 _ _ l0_2 t401 t404 t407 _ ?side1 ?side2 ?side3 ?side4 ?side5 ?side6 A13.out).mono ?_
    (case side1 => exact Sc_ HR0_0 HB)
    (case side2 => exact HC0_0.out)
    (case side3 => exact Sc_ HR0_1 HB)
    (case side4 => exact HC0_1.out)
    (case side5 => exact Sc_ HR0_2 HB)
    (case side6 => exact HC0_2.out)
    rintro e w35 ⟨v402, v405, v408, rfl, ho0, ho1, ho2, hb⟩
    refine ⟨_, rfl, ?_⟩
    have HO403 := Aside0.mk (Kd.S_lower (Kd.S_new' (Kd.S_new' ho0 (Kd.S_lt (by (with_reducible repeat (first | apply Kd.S_alloc | apply Kd.S_drewN | apply Kd.S_drew)); exact HO382.out))) (Kd.S_lt (by (with_reducible repeat (first | apply Kd.S_alloc | apply Kd.S_drewN | apply Kd.S_drew)); exact HO392.out))) (below_size (Hf_ HB))); have HO406 := Aside0.mk (Kd.S_lower (Kd.S_new' (Kd.S_new' ho1 (Kd.S_lt (by (with_reducible repeat (first | apply Kd.S_alloc | apply Kd.S_drewN | apply Kd.S_drew)); exact HO385.out))) (Kd.S_lt (by (with_reducible repeat (first | apply Kd.S_alloc | apply Kd.S_drewN | apply Kd.S_drew)); exact HO395.out))) (below_size (Hf_ HB))); have HO409 := Aside0.mk (Kd.S_lower (Kd.S_new' (Kd.S_new' ho2 (Kd.S_lt (by (with_reducible repeat (first | apply Kd.S_alloc | apply Kd.S_drewN | apply Kd.S_drew)); exact HO388.out))) (Kd.S_lt (by (with_reducible repeat (first | apply Kd.S_alloc | apply Kd.S_drewN | apply Kd.S_drew)); exact HO398.out))) (below_size (Hf_ HB))); replace HO382 := Aside0.mk (Kd.S_elder' (by (with_reducible repeat (first | apply Kd.S_alloc | apply Kd.S_drewN | apply Kd.S_drew)); exact HO382.out) (Kd.S_base ho0) hb); replace HO385 := Aside0.mk (Kd.S_elder' (by (with_reducible repeat (first | apply Kd.S_alloc | apply Kd.S_drewN | apply Kd.S_drew)); exact HO385.out) (Kd.S_base ho1) hb); replace HO388 := Aside0.mk (Kd.S_elder' (by (with_reducible repeat (first | apply Kd.S_alloc | apply Kd.S_drewN | apply Kd.S_drew)); exact HO388.out) (Kd.S_base ho2) hb); replace HO392 := Aside0.mk (Kd.S_elder' (by (with_reducible repeat (first | apply Kd.S_alloc | apply Kd.S_drewN | apply Kd.S_drew)); exact HO392.out) (Kd.S_base ho0) hb); replace HO395 := Aside0.mk (Kd.S_elder' (by (with_reducible repeat (first | apply Kd.S_alloc | apply Kd.S_drewN | apply Kd.S_drew)); exact HO395.out) (Kd.S_base ho1) hb); replace HO398 := Aside0.mk (Kd.S_elder' (by (with_reducible repeat (first | apply Kd.S_alloc | apply Kd.S_drewN | apply Kd.S_drew)); exact HO398.out) (Kd.S_base ho2) hb); replace BK378 := Bb_ BK378 hb; replace BK399 := Bb_ BK399 hb; replace HB := Hs_ HB hb
    (try clear hb)
    (try clear hb2)
    (try clear hk)
    (try clear hi)
    (try clear ho0)
    (try clear ho1)
    (try clear ho2)
    obtain ⟨Ao36, co36, eo36⟩ := Kd.S_slice HO403.out
    (first | subst eo36 | (injection eo36 with f1_ f2_ f3_; have f4_ := f1_.symm; have f5_ := f3_.symm; clear f1_ f2_ f3_; subst f4_; subst f5_))
    obtain ⟨Ao37, co37, eo37⟩ := Kd.S_slice HO406.out
    (first | subst eo37 | (injection eo37 with f1_ f2_ f3_; have f4_ := f1_.symm; have f5_ := f3_.symm; clear f1_ f2_ f3_; subst f4_; subst f5_))
    obtain ⟨Ao38, co38, eo38⟩ := Kd.S_slice HO409.out
    (first | subst eo38 | (injection eo38 with f1_ f2_ f3_; have f4_ := f1_.symm; have f5_ := f3_.symm; clear f1_ f2_ f3_; subst f4_; subst f5_))
    refine hK.out _ _ ⟨(blk_cell BK399.out 0).trans rfl, (blk_cell BK399.out 1).trans rfl, (blk_cell BK399.out 2).trans rfl, (blk_cell BK378.out 0).trans rfl, (blk_cell BK378.out 1).trans rfl, (blk_cell BK378.out 2).trans rfl⟩ (fun hHeld => ?_)
    clear hK K
    refine norm_ (a' := ?_) ?_ ?_
    rotate_left
    ·show Act.put _ (some 28) _ = _
     simp only [Act.put, List.setIfInBounds_toArray, List.set_cons_zero, List.set_cons_succ, i64_w, i32_w]
     rfl
    refine one_ (i := 3) (N := some 29) #[true, true, true, true, false] rfl rfl (by kernel_rfl) (by decide) (fun K hK => ?_)
    refine goes_ Try.func19 (by kernel_rfl) rfl #[.agg #[.slice Ao28 t390.length co28, .slice Ao31 t393.length co31, .slice Ao32 t396.length co32], .agg #[.slice Ao36 t401.length co36, .slice Ao37 t404.length co37, .slice Ao38 t407.length co38]] (by rfl) rfl rfl Mp_ ?_
    with_reducible refine (laws_eqProgram.calls k _ _ t390 _ _ t393 _ _ t396 _ _ t401 _ _ t404 _ _ t407 true _ ?side1 ?side2 ?side3 ?side4 ?side5 ?side6 ?side7 ?side8 ?side9 ?side10 ?side11 ?side12 A14.out).mono ?_
    (case side1 => exact Cq_ (Kd.S_reads' HO392.out).2.2)
    (case side2 => exact (Kd.S_reads' HO392.out).2.1)
    (case side3 => exact Cq_ (Kd.S_reads' HO395.out).2.2)
    (case side4 => exact (Kd.S_reads' HO395.out).2.1)
    (case side5 => exact Cq_ (Kd.S_reads' HO398.out).2.2)
    (case side6 => exact (Kd.S_reads' HO398.out).2.1)
    (case side7 => exact Cq_ (Kd.S_reads' HO403.out).2.2)
    (case side8 => exact (Kd.S_reads' HO403.out).2.1)
    (case side9 => exact Cq_ (Kd.S_reads' HO406.out).2.2)
    (case side10 => exact (Kd.S_reads' HO406.out).2.1)
    (case side11 => exact Cq_ (Kd.S_reads' HO409.out).2.2)
    (case side12 => exact (Kd.S_reads' HO409.out).2.1)
    rintro e w39 ⟨rfl, hb⟩
    refine ⟨_, rfl, ?_⟩
    replace HO382 := Sb_ HO382 hb; replace HO385 := Sb_ HO385 hb; replace HO388 := Sb_ HO388 hb; replace HO392 := Sb_ HO392 hb; replace HO395 := Sb_ HO395 hb; replace HO398 := Sb_ HO398 hb; replace HO403 := Sb_ HO403 hb; replace HO406 := Sb_ HO406 hb; replace HO409 := Sb_ HO409 hb; replace BK378 := Bb_ BK378 hb; replace BK399 := Bb_ BK399 hb; replace HB := Hs_ HB hb
    (try clear hb)
    (try clear hb2)
    (try clear hk)
    (try clear hi)
    refine hK.out _ _ ⟨(blk_cell BK399.out 0).trans rfl, (blk_cell BK399.out 1).trans rfl, (blk_cell BK399.out 2).trans rfl, (blk_cell BK378.out 0).trans rfl, (blk_cell BK378.out 1).trans rfl, (blk_cell BK378.out 2).trans rfl⟩ (fun hHeld => ?_)
    clear hK K
    refine norm_ (a' := ?_) ?_ ?_
    rotate_left
    ·show Act.put _ (some 29) _ = _
     simp only [Act.put, List.setIfInBounds_toArray, List.set_cons_zero, List.set_cons_succ, i64_w, i32_w]
     rfl
    refine pure_ (i := 4) (N := some 30) (v := ?_) (a' := ?_) #[true, true, true, true, true] rfl rfl (by kernel_rfl) (fun _ _ _ h => h) (Or.inl ⟨by rfl, ?_⟩) ?_ ?_
    rotate_left
    ·intro w'
     go_simp
     with_reducible rfl
    rotate_left
    ·simp only [Act.put, List.setIfInBounds_toArray, List.set_cons_zero, List.set_cons_succ, i64_w, i32_w]
     rfl
    refine done_ (by kernel_rfl) ?_
    try go_wp2
    go_ret
    exact ⟨Re_, Hf_ HB⟩
   ·replace c15 := Bool.eq_false_iff.mpr c15
    subst c15
    have H1 : (some false) = some r := by rw [if_neg (show ¬ (false = true) by decide)] at H; exact H
    clear H
    have H := H1
    clear H1
    exact absurd (Option.some.inj H) (by rw [hlaw_.out]; decide)

end Go.Proofs.Ytmbkcbgbienjoaa.PFnExactNodeOk
