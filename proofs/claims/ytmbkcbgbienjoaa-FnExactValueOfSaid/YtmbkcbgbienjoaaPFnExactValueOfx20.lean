/- The machine side of the law FnExactValueOf: for each function that it reaches, a Lean function and its contract. Written by a program of this session's over the kit's print. No condition. -/
import Derived.Test.YtmbkcbgbienjoaaCmq
import Derived.Test.YtmbkcbgbienjoaaPFnExactValueOfx0
import Derived.Test.YtmbkcbgbienjoaaPFnExactValueOfx16
import Derived.Test.YtmbkcbgbienjoaaPFnExactValueOfx17
import Derived.Test.YtmbkcbgbienjoaaPFnExactValueOfx19
namespace Go.Proofs.Ytmbkcbgbienjoaa.PFnExactValueOf
open Go.RowKit Go.Proofs.YtmbkcbgbienjoaaW.PrintWords Go.Proofs.YtmbkcbgbienjoaaW.PrintLast Go.Proofs.YtmbkcbgbienjoaaW.PrintMore Go.Proofs.Ytmbkcbgbienjoaa.Cmp
attribute [local go_sem] max2_int min2_int max_two min_two max_three min_three max_four min_four   -- for this text's walks alone
set_option linter.unusedVariables false
set_option maxHeartbeats 8000000
set_option maxRecDepth 100000
set_option linter.unusedSimpArgs false

/-! ### impl_NodeOk: function 36 -/
mutual
def impl_NodeOk.j0 : Nat → Int → Bool → List (S77) → List (S106) → List (S103) → Int → Int → ByteArray → ByteArray → ByteArray → List Int → Option (Bool)
 | 0, _, _, _, _, _, _, _, _, _, _, _ => none
 | k + 1, x1, x26, x473000, x473001, x473002, x476000, x476001, x476002, x476003, x476004, x476005 => if x26 = true then (some false) else (impl_NodeOk.l0 k x1 x476005 (x476005.length : Int) 0 x473000 x473001 x473002 x476000 x476001 x476002 x476003 x476004 x476005)
def impl_NodeOk.l0 : Nat → Int → List Int → Int → Int → List (S77) → List (S106) → List (S103) → Int → Int → ByteArray → ByteArray → ByteArray → List Int → Option (Bool)
 | 0, _, _, _, _, _, _, _, _, _, _, _, _, _ => none
 | k + 1, x1, x28, x29, x30, x473000, x473001, x473002, x476000, x476001, x476002, x476003, x476004, x476005 => if x30 < x29 then (if 0 ≤ x30 then (if x30 < (x28.length : Int) then ((impl_within.f (rd x28 x30) 0 (wrap64 (x1 - 1))).bind fun t481 => (if t481 = true then (if x30 ≤ (x476005.length : Int) then ((slices_Contains_int_int.f k (x476005.take (x30 : Int).toNat) (rd x28 x30)).bind fun t483 => (if t483 = true then (some false) else (impl_NodeOk.l0 k x1 x28 x29 (wrap64 (x30 + 1)) x473000 x473001 x473002 x476000 x476001 x476002 x476003 x476004 x476005))) else (none)) else (some false))) else (none)) else (none)) else ((impl_kidsOk.f k x473000 x473001 x473002 x476000 x476001 x476002 x476003 x476004 x476005).bind fun t478 => (if t478 = true then ((impl_namesOk.f k x476000 x476001 x476002 x476003 x476004 x476005).bind fun t479 => (some t479)) else (some false)))
end
def impl_NodeOk.f (k : Nat) (l0_0 : List (S77)) (l0_1 : List (S106)) (l0_2 : List (S103)) (a1 : Int) : Option (Bool) := (impl_isNode.f l0_0 l0_1 l0_2 a1).bind fun t473 => (if t473 = true then (if 0 ≤ a1 then (if a1 < (l0_0.length : Int) then ((impl_within.f ((rd_T77 l0_0 a1).f0) 1 5).bind fun t476 => (if t476 = true then (impl_NodeOk.j0 k a1 false l0_0 l0_1 l0_2 ((rd_T77 l0_0 a1).f0) ((rd_T77 l0_0 a1).f1) ((rd_T77 l0_0 a1).f2) ((rd_T77 l0_0 a1).f3) ((rd_T77 l0_0 a1).f4) ((rd_T77 l0_0 a1).f5)) else ((impl_within.f ((rd_T77 l0_0 a1).f0) 11 20).bind fun t477 => (impl_NodeOk.j0 k a1 (!t477) l0_0 l0_1 l0_2 ((rd_T77 l0_0 a1).f0) ((rd_T77 l0_0 a1).f1) ((rd_T77 l0_0 a1).f2) ((rd_T77 l0_0 a1).f3) ((rd_T77 l0_0 a1).f4) ((rd_T77 l0_0 a1).f5))))) else (none)) else (none)) else (some false))
theorem impl_NodeOk.calls (k : Nat) (A0_0 : Option Addr) (c0_0 : Nat) (l0_0 : List (S77)) (A0_1 : Option Addr) (c0_1 : Nat) (l0_1 : List (S106)) (A0_2 : Option Addr) (c0_2 : Nat) (l0_2 : List (S103)) (a1 : Int) (r : Bool) (w : World) (hr0_0 : Kd.C k77 w A0_0 l0_0.length l0_0) (hc0_0 : l0_0.length ≤ c0_0) (hr0_1 : Kd.C k106 w A0_1 l0_1.length l0_1) (hc0_1 : l0_1.length ≤ c0_1) (hr0_2 : Kd.C k103 w A0_2 l0_2.length l0_2) (hc0_2 : l0_2.length ≤ c0_2) (h : impl_NodeOk.f k l0_0 l0_1 l0_2 a1 = some r) :
  Calls Try.prog 36 #[.agg #[.slice A0_0 l0_0.length c0_0, .slice A0_1 l0_1.length c0_1, .slice A0_2 l0_2.length c0_2], .int .i64 a1] w fun e w' => e = .returned (.bool r) ∧ Below w.heap.size w w' := by
 have hu40 := Try.underlying40
 have hu77 := Try.underlying77
 have HR0_0 := Aside0.mk hr0_0
 have HC0_0 := Aside0.mk hc0_0
 clear hr0_0 hc0_0
 have HR0_1 := Aside0.mk hr0_1
 have HC0_1 := Aside0.mk hc0_1
 clear hr0_1 hc0_1
 have HR0_2 := Aside0.mk hr0_2
 have HC0_2 := Aside0.mk hc0_2
 clear hr0_2 hc0_2
 have HB := Aside0.mk (Below.refl w.heap.size w)
 have H : ((impl_isNode.f l0_0 l0_1 l0_2 a1).bind fun t473 => (if t473 = true then (if 0 ≤ a1 then (if a1 < (l0_0.length : Int) then ((impl_within.f ((rd_T77 l0_0 a1).f0) 1 5).bind fun t476 => (if t476 = true then (impl_NodeOk.j0 k a1 false l0_0 l0_1 l0_2 ((rd_T77 l0_0 a1).f0) ((rd_T77 l0_0 a1).f1) ((rd_T77 l0_0 a1).f2) ((rd_T77 l0_0 a1).f3) ((rd_T77 l0_0 a1).f4) ((rd_T77 l0_0 a1).f5)) else ((impl_within.f ((rd_T77 l0_0 a1).f0) 11 20).bind fun t477 => (impl_NodeOk.j0 k a1 (!t477) l0_0 l0_1 l0_2 ((rd_T77 l0_0 a1).f0) ((rd_T77 l0_0 a1).f1) ((rd_T77 l0_0 a1).f2) ((rd_T77 l0_0 a1).f3) ((rd_T77 l0_0 a1).f4) ((rd_T77 l0_0 a1).f5))))) else (none)) else (none)) else (some false))) = some r := h
 clear h
 obtain ⟨t473, A3, H⟩ := Bo_ H
 by_cases c4 : t473 = true
 ·subst c4
  rw [if_pos rfl] at H
  by_cases c5 : 0 ≤ a1
  ·rw [if_pos c5] at H
   have c5b0 := decide_eq_true c5
   clear c5
   by_cases c6 : a1 < (l0_0.length : Int)
   ·rw [if_pos c6] at H
    have c6b0 := decide_eq_true c6
    clear c6
    have HC7 := Aside0.mk H
    clear H
    go_enter Try.func36, Try.ntmps36
    go_upto_region 4 with (first | (refine Bv_ 2 #[.slice A0_0 l0_0.length c0_0, .slice A0_1 l0_1.length c0_1, .slice A0_2 l0_2.length c0_2] 40 ?_; intro gb472 hg w8 BK472 hb; have GW472 := Hg_ HB hg; replace HB := Hs_ HB hb; clear hb hg; obtain ⟨hcz9_0, hcz9_1, hcz9_2, hfz9_0, hfz9_1, hfz9_2⟩ := Bc3_ BK472) | (refine Gl_ (some 10) Try.func78 ((impl_isNode.calls _ _ l0_0 _ _ l0_1 _ _ l0_2 a1 true _ (Sc_ HR0_0 HB) HC0_0.out (Sc_ HR0_1 HB) HC0_1.out (Sc_ HR0_2 HB) HC0_2.out A3.out).mono ?_); rintro e w10 ⟨rfl, hb⟩; refine ⟨_, rfl, ?_⟩; replace BK472 := Bb_ BK472 hb; replace HB := Hs_ HB hb; clear hb; obtain ⟨hcz11_0, hcz11_1, hcz11_2, hfz11_0, hfz11_1, hfz11_2⟩ := Bc3_ BK472; have p474 : 0 ≤ (a1 : Int) := of_decide_eq_true As_; have q474 : a1 < (l0_0.length : Int) := of_decide_eq_true As_; obtain ⟨ad474, A474_5, c474_5, e474, hx474_0, hx474_1, hx474_2, hx474_3, hx474_4, hx474_5, hl474_5, hi474_5⟩ := at_T77 HR0_0.out a1 p474 q474; cases e474; replace hx474_0 := Bw_ hx474_0 HB; replace hx474_1 := Bw_ hx474_1 HB; replace hx474_2 := Bw_ hx474_2 HB; replace hx474_3 := Bw_ hx474_3 HB; replace hx474_4 := Bw_ hx474_4 HB; replace hx474_5 := Bw_ hx474_5 HB; have HR474_5 := Aside0.mk hi474_5; have HC474_5 := Aside0.mk hl474_5; clear hi474_5 hl474_5; replace p474 := eq_true p474; replace q474 := eq_true q474) | (refine Bv_ 5 #[.int .i64 0, .int .i64 0, .string (⟨#[]⟩ : ByteArray), .string (⟨#[]⟩ : ByteArray), .string (⟨#[]⟩ : ByteArray), .slice none 0 0] 77 ?_; intro gb475 hg w12 BK475 hb; have GW475 := Hg_ HB hg; have NB472_475 := Bl_ BK472 hg; have NB475_472 := Bm_ NB472_475; replace BK472 := Bb_ BK472 hb; replace HB := Hs_ HB hb; clear hb hg; have hnb13 := NB475_472.out; have hnc13 := NB472_475.out; obtain ⟨hcz14_0, hcz14_1, hcz14_2, hcz14_3, hcz14_4, hcz14_5, hfz14_0, hfz14_1, hfz14_2, hfz14_3, hfz14_4, hfz14_5⟩ := Bc6_ BK475))
    (try simp only [Act.put, List.setIfInBounds_toArray, List.set_cons_zero, List.set_cons_succ])
    go_cut [26] (fun v26 wc => ∃ (kq : Nat) (x26_6 : Bool), v26 = .bool x26_6 ∧ Aside0 (impl_NodeOk.j0 kq a1 x26_6 l0_0 l0_1 l0_2 ((rd_T77 l0_0 a1).f0) ((rd_T77 l0_0 a1).f1) ((rd_T77 l0_0 a1).f2) ((rd_T77 l0_0 a1).f3) ((rd_T77 l0_0 a1).f4) ((rd_T77 l0_0 a1).f5) = some r) ∧ Aside0 (kq ≤ k) ∧ Aside0 (wc.heap[gb472]? = some (.cells #[(.slice (some ad474) l0_0.length c0_0), (.slice A0_1 l0_1.length c0_1), (.slice A0_2 l0_2.length c0_2)] 40 (0, 0))) ∧ Aside0 (wc.heap[gb475]? = some (.cells #[.int .i64 ((rd_T77 l0_0 a1).f0), .int .i64 ((rd_T77 l0_0 a1).f1), .string ((rd_T77 l0_0 a1).f2), .string ((rd_T77 l0_0 a1).f3), .string ((rd_T77 l0_0 a1).f4), (.slice A474_5 ((rd_T77 l0_0 a1).f5).length c474_5)] 77 (0, 0))) ∧ Aside0 (Below w.heap.size w wc))
    case first =>
     have H := HC7.out
     clear HC7
     obtain ⟨t476, A15, H⟩ := Bo_ H
     by_cases c16 : t476 = true
     ·subst c16
      rw [if_pos rfl] at H
      have H' := Aside0.mk H
      clear H
      have hnb17 := NB475_472.out
      have hnc17 := NB472_475.out
      obtain ⟨hcz18_0, hcz18_1, hcz18_2, hcz18_3, hcz18_4, hcz18_5, hfz18_0, hfz18_1, hfz18_2, hfz18_3, hfz18_4, hfz18_5⟩ := Bc6_ BK475
      go_wp2_with (first | (refine Gl_ (some 19) Try.func79 ((impl_within.calls ((rd_T77 l0_0 a1).f0) 1 5 true _ A15.out).mono ?_); rintro e w' ⟨rfl, ⟨nd, rfl⟩⟩; refine ⟨_, rfl, ?_⟩))
      go_meet
      case rel => exact ⟨_, (false), Rr_, H', ⟨by first | omega | exact Nat.le_refl _⟩, ⟨by (with_reducible repeat (first | refine blk_drewN ?_ _ | refine blk_drew ?_ | refine blk_alloc ?_ _)); refine blk_far ?_ NB472_475.out _; (with_reducible repeat (first | refine blk_drewN ?_ _ | refine blk_drew ?_ | refine blk_alloc ?_ _)); refine blk_far ?_ NB472_475.out _; (with_reducible repeat (first | refine blk_drewN ?_ _ | refine blk_drew ?_ | refine blk_alloc ?_ _)); refine blk_far ?_ NB472_475.out _; (with_reducible repeat (first | refine blk_drewN ?_ _ | refine blk_drew ?_ | refine blk_alloc ?_ _)); refine blk_far ?_ NB472_475.out _; (with_reducible repeat (first | refine blk_drewN ?_ _ | refine blk_drew ?_ | refine blk_alloc ?_ _)); refine blk_far ?_ NB472_475.out _; (with_reducible repeat (first | refine blk_drewN ?_ _ | refine blk_drew ?_ | refine blk_alloc ?_ _)); refine blk_far ?_ NB472_475.out _; (with_reducible repeat (first | refine blk_drewN ?_ _ | refine blk_drew ?_ | refine blk_alloc ?_ _)); exact BK472.out⟩, ⟨by (with_reducible repeat (first | refine blk_drewN ?_ _ | refine blk_drew ?_ | refine blk_alloc ?_ _)); refine blk_put (cs := #[.int .i64 ((rd_T77 l0_0 a1).f0), .int .i64 ((rd_T77 l0_0 a1).f1), .string ((rd_T77 l0_0 a1).f2), .string ((rd_T77 l0_0 a1).f3), .string ((rd_T77 l0_0 a1).f4), .slice none 0 0]) ?_ 5 _ rfl; (with_reducible repeat (first | refine blk_drewN ?_ _ | refine blk_drew ?_ | refine blk_alloc ?_ _)); refine blk_put (cs := #[.int .i64 ((rd_T77 l0_0 a1).f0), .int .i64 ((rd_T77 l0_0 a1).f1), .string ((rd_T77 l0_0 a1).f2), .string ((rd_T77 l0_0 a1).f3), .string (⟨#[]⟩ : ByteArray), .slice none 0 0]) ?_ 4 _ rfl; (with_reducible repeat (first | refine blk_drewN ?_ _ | refine blk_drew ?_ | refine blk_alloc ?_ _)); refine blk_put (cs := #[.int .i64 ((rd_T77 l0_0 a1).f0), .int .i64 ((rd_T77 l0_0 a1).f1), .string ((rd_T77 l0_0 a1).f2), .string (⟨#[]⟩ : ByteArray), .string (⟨#[]⟩ : ByteArray), .slice none 0 0]) ?_ 3 _ rfl; (with_reducible repeat (first | refine blk_drewN ?_ _ | refine blk_drew ?_ | refine blk_alloc ?_ _)); refine blk_put (cs := #[.int .i64 ((rd_T77 l0_0 a1).f0), .int .i64 ((rd_T77 l0_0 a1).f1), .string (⟨#[]⟩ : ByteArray), .string (⟨#[]⟩ : ByteArray), .string (⟨#[]⟩ : ByteArray), .slice none 0 0]) ?_ 2 _ rfl; (with_reducible repeat (first | refine blk_drewN ?_ _ | refine blk_drew ?_ | refine blk_alloc ?_ _)); refine blk_put (cs := #[.int .i64 ((rd_T77 l0_0 a1).f0), .int .i64 0, .string (⟨#[]⟩ : ByteArray), .string (⟨#[]⟩ : ByteArray), .string (⟨#[]⟩ : ByteArray), .slice none 0 0]) ?_ 1 _ rfl; (with_reducible repeat (first | refine blk_drewN ?_ _ | refine blk_drew ?_ | refine blk_alloc ?_ _)); refine blk_put (cs := #[.int .i64 0, .int .i64 0, .string (⟨#[]⟩ : ByteArray), .string (⟨#[]⟩ : ByteArray), .string (⟨#[]⟩ : ByteArray), .slice none 0 0]) ?_ 0 _ rfl; (with_reducible repeat (first | refine blk_drewN ?_ _ | refine blk_drew ?_ | refine blk_alloc ?_ _)); exact BK475.out⟩, ⟨Hf_ HB⟩⟩
     ·replace c16 := Bool.eq_false_iff.mpr c16
      subst c16
      rw [if_neg Ff_] at H
      obtain ⟨t477, A19, H⟩ := Bo_ H
      have H' := Aside0.mk H
      clear H
      have hnb20 := NB475_472.out
      have hnc20 := NB472_475.out
      obtain ⟨hcz21_0, hcz21_1, hcz21_2, hcz21_3, hcz21_4, hcz21_5, hfz21_0, hfz21_1, hfz21_2, hfz21_3, hfz21_4, hfz21_5⟩ := Bc6_ BK475
      go_wp2_with (first | (refine Gl_ (some 19) Try.func79 ((impl_within.calls ((rd_T77 l0_0 a1).f0) 1 5 false _ A15.out).mono ?_); rintro e w' ⟨rfl, ⟨nd, rfl⟩⟩; refine ⟨_, rfl, ?_⟩) | (go_at_call 79; (with_reducible refine (impl_within.calls ((rd_T77 l0_0 a1).f0) 11 20 t477 _ A19.out).mono ?_); rintro e w' ⟨rfl, ⟨nd, rfl⟩⟩))
      go_meet
      case rel => exact ⟨_, (!t477), Rr_, H', ⟨by first | omega | exact Nat.le_refl _⟩, ⟨by (with_reducible repeat (first | refine blk_drewN ?_ _ | refine blk_drew ?_ | refine blk_alloc ?_ _)); refine blk_far ?_ NB472_475.out _; (with_reducible repeat (first | refine blk_drewN ?_ _ | refine blk_drew ?_ | refine blk_alloc ?_ _)); refine blk_far ?_ NB472_475.out _; (with_reducible repeat (first | refine blk_drewN ?_ _ | refine blk_drew ?_ | refine blk_alloc ?_ _)); refine blk_far ?_ NB472_475.out _; (with_reducible repeat (first | refine blk_drewN ?_ _ | refine blk_drew ?_ | refine blk_alloc ?_ _)); refine blk_far ?_ NB472_475.out _; (with_reducible repeat (first | refine blk_drewN ?_ _ | refine blk_drew ?_ | refine blk_alloc ?_ _)); refine blk_far ?_ NB472_475.out _; (with_reducible repeat (first | refine blk_drewN ?_ _ | refine blk_drew ?_ | refine blk_alloc ?_ _)); refine blk_far ?_ NB472_475.out _; (with_reducible repeat (first | refine blk_drewN ?_ _ | refine blk_drew ?_ | refine blk_alloc ?_ _)); exact BK472.out⟩, ⟨by (with_reducible repeat (first | refine blk_drewN ?_ _ | refine blk_drew ?_ | refine blk_alloc ?_ _)); refine blk_put (cs := #[.int .i64 ((rd_T77 l0_0 a1).f0), .int .i64 ((rd_T77 l0_0 a1).f1), .string ((rd_T77 l0_0 a1).f2), .string ((rd_T77 l0_0 a1).f3), .string ((rd_T77 l0_0 a1).f4), .slice none 0 0]) ?_ 5 _ rfl; (with_reducible repeat (first | refine blk_drewN ?_ _ | refine blk_drew ?_ | refine blk_alloc ?_ _)); refine blk_put (cs := #[.int .i64 ((rd_T77 l0_0 a1).f0), .int .i64 ((rd_T77 l0_0 a1).f1), .string ((rd_T77 l0_0 a1).f2), .string ((rd_T77 l0_0 a1).f3), .string (⟨#[]⟩ : ByteArray), .slice none 0 0]) ?_ 4 _ rfl; (with_reducible repeat (first | refine blk_drewN ?_ _ | refine blk_drew ?_ | refine blk_alloc ?_ _)); refine blk_put (cs := #[.int .i64 ((rd_T77 l0_0 a1).f0), .int .i64 ((rd_T77 l0_0 a1).f1), .string ((rd_T77 l0_0 a1).f2), .string (⟨#[]⟩ : ByteArray), .string (⟨#[]⟩ : ByteArray), .slice none 0 0]) ?_ 3 _ rfl; (with_reducible repeat (first | refine blk_drewN ?_ _ | refine blk_drew ?_ | refine blk_alloc ?_ _)); refine blk_put (cs := #[.int .i64 ((rd_T77 l0_0 a1).f0), .int .i64 ((rd_T77 l0_0 a1).f1), .string (⟨#[]⟩ : ByteArray), .string (⟨#[]⟩ : ByteArray), .string (⟨#[]⟩ : ByteArray), .slice none 0 0]) ?_ 2 _ rfl; (with_reducible repeat (first | refine blk_drewN ?_ _ | refine blk_drew ?_ | refine blk_alloc ?_ _)); refine blk_put (cs := #[.int .i64 ((rd_T77 l0_0 a1).f0), .int .i64 0, .string (⟨#[]⟩ : ByteArray), .string (⟨#[]⟩ : ByteArray), .string (⟨#[]⟩ : ByteArray), .slice none 0 0]) ?_ 1 _ rfl; (with_reducible repeat (first | refine blk_drewN ?_ _ | refine blk_drew ?_ | refine blk_alloc ?_ _)); refine blk_put (cs := #[.int .i64 0, .int .i64 0, .string (⟨#[]⟩ : ByteArray), .string (⟨#[]⟩ : ByteArray), .string (⟨#[]⟩ : ByteArray), .slice none 0 0]) ?_ 0 _ rfl; (with_reducible repeat (first | refine blk_drewN ?_ _ | refine blk_drew ?_ | refine blk_alloc ?_ _)); exact BK475.out⟩, ⟨Hf_ HB⟩⟩
    case rest =>
     clear HC7
     clear c5b0 c6b0 hcz11_0 hcz11_1 hcz11_2 hcz14_0 hcz14_1 hcz14_2 hcz14_3 hcz14_4 hcz14_5 hcz9_0 hcz9_1 hcz9_2 hfz11_0 hfz11_1 hfz11_2 hfz14_0 hfz14_1 hfz14_2 hfz14_3 hfz14_4 hfz14_5 hfz9_0 hfz9_1 hfz9_2 hx474_0 hx474_1 hx474_2 hx474_3 hx474_4 hx474_5 p474 q474
     obtain ⟨kq, x26_6, rfl, HA, HJ6, BK472, BK475, HB⟩ := hcut
     cases kq with
     | zero => exact absurd HA.out (by simp [impl_NodeOk.j0])
     | succ kj6 =>
      have H := HA.out
      clear HA
      simp only [impl_NodeOk.j0] at H
      by_cases c22 : x26_6 = true
      ·subst c22
       rw [if_pos rfl] at H
       obtain rfl := Option.some.inj H
       go_wp2
       go_ret
       exact ⟨Re_, Hf_ HB⟩
      ·replace c22 := Bool.eq_false_iff.mpr c22
       subst c22
       rw [if_neg Ff_] at H
       have H' := Aside0.mk H
       clear H
       have hnb23 := NB475_472.out
       have hnc23 := NB472_475.out
       obtain ⟨hcz24_0, hcz24_1, hcz24_2, hcz24_3, hcz24_4, hcz24_5, hfz24_0, hfz24_1, hfz24_2, hfz24_3, hfz24_4, hfz24_5⟩ := Bc6_ BK475
       go_wp2
       go_loopg [30] kj6 (fun kq v30 w' => ∃ (x30_2 : Int), v30 = .int .i64 x30_2 ∧ Aside0 (impl_NodeOk.l0 kq a1 ((rd_T77 l0_0 a1).f5) (((rd_T77 l0_0 a1).f5).length : Int) x30_2 l0_0 l0_1 l0_2 ((rd_T77 l0_0 a1).f0) ((rd_T77 l0_0 a1).f1) ((rd_T77 l0_0 a1).f2) ((rd_T77 l0_0 a1).f3) ((rd_T77 l0_0 a1).f4) ((rd_T77 l0_0 a1).f5) = some r) ∧ Aside0 (kq ≤ kj6) ∧ Aside0 (w'.heap[gb472]? = some (.cells #[(.slice (some ad474) l0_0.length c0_0), (.slice A0_1 l0_1.length c0_1), (.slice A0_2 l0_2.length c0_2)] 40 (0, 0))) ∧ Aside0 (w'.heap[gb475]? = some (.cells #[.int .i64 ((rd_T77 l0_0 a1).f0), .int .i64 ((rd_T77 l0_0 a1).f1), .string ((rd_T77 l0_0 a1).f2), .string ((rd_T77 l0_0 a1).f3), .string ((rd_T77 l0_0 a1).f4), (.slice A474_5 ((rd_T77 l0_0 a1).f5).length c474_5)] 77 (0, 0))) ∧ Aside0 (Below w.heap.size w w'))
       case atStart => exact ⟨(0), Rr_, H', ⟨Nat.le_refl _⟩, ⟨Bq_ BK472⟩, ⟨Bq_ BK475⟩, ⟨Hf_ HB⟩⟩
       case round =>
        clear H'
        clear hcz24_0 hcz24_1 hcz24_2 hcz24_3 hcz24_4 hcz24_5 hfz24_0 hfz24_1 hfz24_2 hfz24_3 hfz24_4 hfz24_5
        obtain ⟨x30_2, rfl, HA, HK2, BK472, BK475, HB⟩ := hrel
        cases gk with
        | zero => exact absurd HA.out (by simp [impl_NodeOk.l0])
        | succ k2 =>
         have H := HA.out
         clear HA
         simp only [impl_NodeOk.l0] at H
         by_cases c25 : x30_2 < (((rd_T77 l0_0 a1).f5).length : Int)
         ·rw [if_pos c25] at H
          have c25b0 := decide_eq_true c25
          clear c25
          by_cases c26 : 0 ≤ x30_2
          ·rw [if_pos c26] at H
           have c26b0 := decide_eq_true c26
           clear c26
           by_cases c27 : x30_2 < (((rd_T77 l0_0 a1).f5).length : Int)
           ·rw [if_pos c27] at H
            have c27b0 := decide_eq_true c27
            clear c27
            obtain ⟨t481, A28, H⟩ := Bo_ H
            by_cases c29 : t481 = true
            ·subst c29
             rw [if_pos rfl] at H
             have c30b0 := eq_true (of_decide_eq_true As_ : 0 ≤ x30_2)
             by_cases c31 : x30_2 ≤ (((rd_T77 l0_0 a1).f5).length : Int)
             ·rw [if_pos c31] at H
              have c31b0 := eq_true c31
              have c31b1 := decide_eq_true c31
              clear c31
              obtain ⟨t483, A32, H⟩ := Bo_ H
              by_cases c33 : t483 = true
              ·subst c33
               rw [if_pos rfl] at H
               obtain rfl := Option.some.inj H
               have p480 : 0 ≤ (x30_2 : Int) := of_decide_eq_true As_
               have q480 : x30_2 < (((rd_T77 l0_0 a1).f5).length : Int) := of_decide_eq_true As_
               obtain ⟨ad480, e480, hx480_0⟩ := Kd.at_int HR474_5.out x30_2 p480 q480
               cases e480
               replace hx480_0 := Bw_ hx480_0 HB
               replace p480 := eq_true p480
               replace q480 := eq_true q480
               go_wp2_with (first | (refine Gl_ (some 38) Try.func79 ((impl_within.calls (rd ((rd_T77 l0_0 a1).f5) x30_2) 0 (wrap64 (a1 - 1)) true _ A28.out).mono ?_); rintro e w' ⟨rfl, ⟨nd, rfl⟩⟩; refine ⟨_, rfl, ?_⟩; have hnb34 := NB475_472.out; have hnc34 := NB472_475.out; obtain ⟨hcz35_0, hcz35_1, hcz35_2, hcz35_3, hcz35_4, hcz35_5, hfz35_0, hfz35_1, hfz35_2, hfz35_3, hfz35_4, hfz35_5⟩ := Bc6_ BK475; obtain ⟨i036, hi036, _, hsz36, _⟩ := info_parts info3; obtain ⟨hcut36, hA36, hC36⟩ := print_take_of (P := Try.prog) (Value.int .i64) 0 27 3 .i64 Try.underlying27 hi036 hsz36 (some ad480) c474_5 ((rd_T77 l0_0 a1).f5) x30_2 (of_decide_eq_true As_) (of_decide_eq_true As_) HC474_5.out; have HR482 := Aside0.mk (Kd.C_of_reads (h1 := fun _ => rfl) (hA36 _ (Kd.reads_of_C HR474_5.out))); have HC482 := Aside0.mk hC36; clear hA36 hC36 hi036 hsz36) | (go_at_call 80; refine calls_of_args (args' := #[.slice (some ad480) (((rd_T77 l0_0 a1).f5).take (x30_2 : Int).toNat).length c474_5, .int .i64 (rd ((rd_T77 l0_0 a1).f5) x30_2)]) (by first | (rw [show (((rd_T77 l0_0 a1).f5).take (x30_2 : Int).toNat).length = (x30_2 : Int).toNat from List.length_take_of_le (Int.toNat_le.2 (of_decide_eq_true As_))]; done) | (rw [show (((rd_T77 l0_0 a1).f5).take (x30_2 : Int).toNat).length = (x30_2 : Int).toNat from List.length_take_of_le (Int.toNat_le.2 (of_decide_eq_true As_))]; rfl) | rfl) ?_; (refine (slices_Contains_int_int.calls k2 _ _ (((rd_T77 l0_0 a1).f5).take (x30_2 : Int).toNat) (rd ((rd_T77 l0_0 a1).f5) x30_2) true _ (Sh_ HR482 HB) HC482.out A32.out).mono ?_); rintro e w' ⟨rfl, ⟨nd, rfl⟩⟩))
               go_ret
               exact ⟨Re_, Hf_ HB⟩
              ·replace c33 := Bool.eq_false_iff.mpr c33
               subst c33
               rw [if_neg Ff_] at H
               have H' := Aside0.mk H
               clear H
               have p480 : 0 ≤ (x30_2 : Int) := of_decide_eq_true As_
               have q480 : x30_2 < (((rd_T77 l0_0 a1).f5).length : Int) := of_decide_eq_true As_
               obtain ⟨ad480, e480, hx480_0⟩ := Kd.at_int HR474_5.out x30_2 p480 q480
               cases e480
               replace hx480_0 := Bw_ hx480_0 HB
               replace p480 := eq_true p480
               replace q480 := eq_true q480
               go_wp2_with (first | (refine Gl_ (some 38) Try.func79 ((impl_within.calls (rd ((rd_T77 l0_0 a1).f5) x30_2) 0 (wrap64 (a1 - 1)) true _ A28.out).mono ?_); rintro e w' ⟨rfl, ⟨nd, rfl⟩⟩; refine ⟨_, rfl, ?_⟩; have hnb37 := NB475_472.out; have hnc37 := NB472_475.out; obtain ⟨hcz38_0, hcz38_1, hcz38_2, hcz38_3, hcz38_4, hcz38_5, hfz38_0, hfz38_1, hfz38_2, hfz38_3, hfz38_4, hfz38_5⟩ := Bc6_ BK475; obtain ⟨i039, hi039, _, hsz39, _⟩ := info_parts info3; obtain ⟨hcut39, hA39, hC39⟩ := print_take_of (P := Try.prog) (Value.int .i64) 0 27 3 .i64 Try.underlying27 hi039 hsz39 (some ad480) c474_5 ((rd_T77 l0_0 a1).f5) x30_2 (of_decide_eq_true As_) (of_decide_eq_true As_) HC474_5.out; have HR482 := Aside0.mk (Kd.C_of_reads (h1 := fun _ => rfl) (hA39 _ (Kd.reads_of_C HR474_5.out))); have HC482 := Aside0.mk hC39; clear hA39 hC39 hi039 hsz39) | (go_at_call 80; refine calls_of_args (args' := #[.slice (some ad480) (((rd_T77 l0_0 a1).f5).take (x30_2 : Int).toNat).length c474_5, .int .i64 (rd ((rd_T77 l0_0 a1).f5) x30_2)]) (by first | (rw [show (((rd_T77 l0_0 a1).f5).take (x30_2 : Int).toNat).length = (x30_2 : Int).toNat from List.length_take_of_le (Int.toNat_le.2 (of_decide_eq_true As_))]; done) | (rw [show (((rd_T77 l0_0 a1).f5).take (x30_2 : Int).toNat).length = (x30_2 : Int).toNat from List.length_take_of_le (Int.toNat_le.2 (of_decide_eq_true As_))]; rfl) | rfl) ?_; (refine (slices_Contains_int_int.calls k2 _ _ (((rd_T77 l0_0 a1).f5).take (x30_2 : Int).toNat) (rd ((rd_T77 l0_0 a1).f5) x30_2) false _ (Sh_ HR482 HB) HC482.out A32.out).mono ?_); rintro e w' ⟨rfl, ⟨nd, rfl⟩⟩))
               go_roundg k2
               case measure => have := HJ6.out; have := HK2.out; omega
               case rel => exact ⟨(wrap64 (x30_2 + 1)), Rr_, H', ⟨by have := HJ6.out; have := HK2.out; omega⟩, ⟨Bq_ BK472⟩, ⟨Bq_ BK475⟩, ⟨Hf_ HB⟩⟩
             ·rw [if_neg c31] at H
              exact absurd H (by simp)
            ·replace c29 := Bool.eq_false_iff.mpr c29
             subst c29
             rw [if_neg Ff_] at H
             obtain rfl := Option.some.inj H
             have p480 : 0 ≤ (x30_2 : Int) := of_decide_eq_true As_
             have q480 : x30_2 < (((rd_T77 l0_0 a1).f5).length : Int) := of_decide_eq_true As_
             obtain ⟨ad480, e480, hx480_0⟩ := Kd.at_int HR474_5.out x30_2 p480 q480
             cases e480
             replace hx480_0 := Bw_ hx480_0 HB
             replace p480 := eq_true p480
             replace q480 := eq_true q480
             go_wp2_with (first | (refine Gl_ (some 38) Try.func79 ((impl_within.calls (rd ((rd_T77 l0_0 a1).f5) x30_2) 0 (wrap64 (a1 - 1)) false _ A28.out).mono ?_); rintro e w' ⟨rfl, ⟨nd, rfl⟩⟩; refine ⟨_, rfl, ?_⟩))
             go_ret
             exact ⟨Re_, Hf_ HB⟩
           ·rw [if_neg c27] at H
            exact absurd H (by simp)
          ·rw [if_neg c26] at H
           exact absurd H (by simp)
         ·rw [if_neg c25] at H
          have c25b0 := decide_eq_false c25
          clear c25
          obtain ⟨t478, A40, H⟩ := Bo_ H
          by_cases c41 : t478 = true
          ·subst c41
           rw [if_pos rfl] at H
           obtain ⟨t479, A42, H⟩ := Bo_ H
           obtain rfl := Option.some.inj H
           have hnb43 := NB472_475.out
           have hnc43 := NB475_472.out
           obtain ⟨hcz44_0, hcz44_1, hcz44_2, hfz44_0, hfz44_1, hfz44_2⟩ := Bc3_ BK472
           obtain ⟨hcz45_0, hcz45_1, hcz45_2, hcz45_3, hcz45_4, hcz45_5, hfz45_0, hfz45_1, hfz45_2, hfz45_3, hfz45_4, hfz45_5⟩ := Bc6_ BK475
           go_wp2_with (first | (refine Gl_ (some 51) Try.func81 ((impl_kidsOk.calls k2 _ _ l0_0 _ _ l0_1 _ _ l0_2 ((rd_T77 l0_0 a1).f0) ((rd_T77 l0_0 a1).f1) ((rd_T77 l0_0 a1).f2) ((rd_T77 l0_0 a1).f3) ((rd_T77 l0_0 a1).f4) _ _ ((rd_T77 l0_0 a1).f5) true _ (Sc_ HR0_0 HB) HC0_0.out (Sc_ HR0_1 HB) HC0_1.out (Sc_ HR0_2 HB) HC0_2.out (Sc_ HR474_5 HB) HC474_5.out A40.out).mono ?_); rintro e w46 ⟨rfl, hb⟩; refine ⟨_, rfl, ?_⟩; replace BK472 := Bb_ BK472 hb; replace BK475 := Bb_ BK475 hb; replace HB := Hs_ HB hb; clear hb; obtain ⟨hcz47_0, hcz47_1, hcz47_2, hcz47_3, hcz47_4, hcz47_5, hfz47_0, hfz47_1, hfz47_2, hfz47_3, hfz47_4, hfz47_5⟩ := Bc6_ BK475) | (go_at_call 82; (refine (impl_namesOk.calls k2 ((rd_T77 l0_0 a1).f0) ((rd_T77 l0_0 a1).f1) ((rd_T77 l0_0 a1).f2) ((rd_T77 l0_0 a1).f3) ((rd_T77 l0_0 a1).f4) _ _ ((rd_T77 l0_0 a1).f5) t479 _ (Sc_ HR474_5 HB) HC474_5.out A42.out).mono ?_); rintro e w48 ⟨rfl, hb⟩; replace BK472 := Bb_ BK472 hb; replace BK475 := Bb_ BK475 hb; replace HB := Hs_ HB hb; clear hb))
           go_ret
           exact ⟨Re_, Hf_ HB⟩
          ·replace c41 := Bool.eq_false_iff.mpr c41
           subst c41
           rw [if_neg Ff_] at H
           obtain rfl := Option.some.inj H
           have hnb49 := NB472_475.out
           have hnc49 := NB475_472.out
           obtain ⟨hcz50_0, hcz50_1, hcz50_2, hfz50_0, hfz50_1, hfz50_2⟩ := Bc3_ BK472
           obtain ⟨hcz51_0, hcz51_1, hcz51_2, hcz51_3, hcz51_4, hcz51_5, hfz51_0, hfz51_1, hfz51_2, hfz51_3, hfz51_4, hfz51_5⟩ := Bc6_ BK475
           go_wp2_with (first | (refine Gl_ (some 51) Try.func81 ((impl_kidsOk.calls k2 _ _ l0_0 _ _ l0_1 _ _ l0_2 ((rd_T77 l0_0 a1).f0) ((rd_T77 l0_0 a1).f1) ((rd_T77 l0_0 a1).f2) ((rd_T77 l0_0 a1).f3) ((rd_T77 l0_0 a1).f4) _ _ ((rd_T77 l0_0 a1).f5) false _ (Sc_ HR0_0 HB) HC0_0.out (Sc_ HR0_1 HB) HC0_1.out (Sc_ HR0_2 HB) HC0_2.out (Sc_ HR474_5 HB) HC474_5.out A40.out).mono ?_); rintro e w52 ⟨rfl, hb⟩; refine ⟨_, rfl, ?_⟩; replace BK472 := Bb_ BK472 hb; replace BK475 := Bb_ BK475 hb; replace HB := Hs_ HB hb; clear hb))
           go_ret
           exact ⟨Re_, Hf_ HB⟩
   ·rw [if_neg c6] at H
    exact absurd H (by simp)
  ·rw [if_neg c5] at H
   exact absurd H (by simp)
 ·replace c4 := Bool.eq_false_iff.mpr c4
  subst c4
  rw [if_neg Ff_] at H
  obtain rfl := Option.some.inj H
  go_enter Try.func36, Try.ntmps36
  go_wp2_with (first | (refine Bv_ 2 #[.slice A0_0 l0_0.length c0_0, .slice A0_1 l0_1.length c0_1, .slice A0_2 l0_2.length c0_2] 40 ?_; intro gb472 hg w53 BK472 hb; have GW472 := Hg_ HB hg; replace HB := Hs_ HB hb; clear hb hg; obtain ⟨hcz54_0, hcz54_1, hcz54_2, hfz54_0, hfz54_1, hfz54_2⟩ := Bc3_ BK472) | (refine Gl_ (some 10) Try.func78 ((impl_isNode.calls _ _ l0_0 _ _ l0_1 _ _ l0_2 a1 false _ (Sc_ HR0_0 HB) HC0_0.out (Sc_ HR0_1 HB) HC0_1.out (Sc_ HR0_2 HB) HC0_2.out A3.out).mono ?_); rintro e w55 ⟨rfl, hb⟩; refine ⟨_, rfl, ?_⟩; replace BK472 := Bb_ BK472 hb; replace HB := Hs_ HB hb; clear hb))
  go_ret
  exact ⟨Re_, Hf_ HB⟩

end Go.Proofs.Ytmbkcbgbienjoaa.PFnExactValueOf
