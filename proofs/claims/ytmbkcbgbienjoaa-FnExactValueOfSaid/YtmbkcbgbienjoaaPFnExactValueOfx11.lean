/- The machine side of the law FnExactValueOf: for each function that it reaches, a Lean function and its contract. Written by a program of this session's over the kit's print. No condition. -/
import Derived.Test.YtmbkcbgbienjoaaCmq
import Derived.Test.YtmbkcbgbienjoaaPFnExactValueOfx0
import Derived.Test.YtmbkcbgbienjoaaPFnExactValueOfx7
import Derived.Test.YtmbkcbgbienjoaaPFnExactValueOfx9
import Derived.Test.YtmbkcbgbienjoaaPFnExactValueOfx10
namespace Go.Proofs.Ytmbkcbgbienjoaa.PFnExactValueOf
open Go.RowKit Go.Proofs.YtmbkcbgbienjoaaW.PrintWords Go.Proofs.YtmbkcbgbienjoaaW.PrintLast Go.Proofs.YtmbkcbgbienjoaaW.PrintMore Go.Proofs.Ytmbkcbgbienjoaa.Cmp
attribute [local go_sem] max2_int min2_int max_two min_two max_three min_three max_four min_four   -- for this text's walks alone
set_option linter.unusedVariables false
set_option maxHeartbeats 8000000
set_option maxRecDepth 100000
set_option linter.unusedSimpArgs false

/-! ### spec_NodeOk: function 35 -/
mutual
def spec_NodeOk.l0 : Nat → Int → Int → List (S77) → List (S106) → List (S103) → Int → Int → ByteArray → ByteArray → ByteArray → List Int → Option (Bool)
 | 0, _, _, _, _, _, _, _, _, _, _, _ => none
 | k + 1, x1, x6, x300000, x300001, x300002, x303000, x303001, x303002, x303003, x303004, x303005 => if x6 < (x303005.length : Int) then (spec_NodeOk.l1 k x1 x6 0 x300000 x300001 x300002 x303000 x303001 x303002 x303003 x303004 x303005) else ((spec_l05Value.f x303000).bind fun t305 => (if t305 = true then ((spec_l05Kids.f k x300000 x300001 x300002 x1).bind fun t306 => (spec_NodeOk.j2 k (!t306) x303000 x303001 x303002 x303003 x303004 x303005)) else ((spec_l05Statement.f x303000).bind fun t307 => (if t307 = true then ((spec_l05Kids.f k x300000 x300001 x300002 x1).bind fun t308 => (spec_NodeOk.j2 k (!t308) x303000 x303001 x303002 x303003 x303004 x303005)) else (if x303000 = 20 then ((spec_l05Kids.f k x300000 x300001 x300002 x1).bind fun t309 => (spec_NodeOk.j2 k (!t309) x303000 x303001 x303002 x303003 x303004 x303005)) else (spec_NodeOk.j2 k true x303000 x303001 x303002 x303003 x303004 x303005))))))
def spec_NodeOk.l1 : Nat → Int → Int → Int → List (S77) → List (S106) → List (S103) → Int → Int → ByteArray → ByteArray → ByteArray → List Int → Option (Bool)
 | 0, _, _, _, _, _, _, _, _, _, _, _, _ => none
 | k + 1, x1, x6, x7, x300000, x300001, x300002, x303000, x303001, x303002, x303003, x303004, x303005 => if x7 < x6 then (if 0 ≤ x6 then (if x6 < (x303005.length : Int) then (if 0 ≤ x7 then (if x7 < (x303005.length : Int) then (if (rd x303005 x6) = (rd x303005 x7) then (some false) else (spec_NodeOk.l1 k x1 x6 (wrap64 (x7 + 1)) x300000 x300001 x300002 x303000 x303001 x303002 x303003 x303004 x303005)) else (none)) else (none)) else (none)) else (none)) else (spec_NodeOk.l0 k x1 (wrap64 (x6 + 1)) x300000 x300001 x300002 x303000 x303001 x303002 x303003 x303004 x303005)
def spec_NodeOk.j2 : Nat → Bool → Int → Int → ByteArray → ByteArray → ByteArray → List Int → Option (Bool)
 | 0, _, _, _, _, _, _, _ => none
 | k + 1, x64, x303000, x303001, x303002, x303003, x303004, x303005 => if x64 = true then (some false) else (if x303000 = 2 then (spec_NodeOk.j3 k true x303000 x303001 x303002 x303003 x303004 x303005) else (if x303000 = 11 then (spec_NodeOk.j3 k true x303000 x303001 x303002 x303003 x303004 x303005) else (if x303000 = 16 then (spec_NodeOk.j3 k true x303000 x303001 x303002 x303003 x303004 x303005) else (if x303000 = 17 then (spec_NodeOk.j3 k true x303000 x303001 x303002 x303003 x303004 x303005) else (if x303000 = 18 then (spec_NodeOk.j3 k true x303000 x303001 x303002 x303003 x303004 x303005) else (spec_NodeOk.j3 k (x303000 == 14) x303000 x303001 x303002 x303003 x303004 x303005))))))
def spec_NodeOk.j3 : Nat → Bool → Int → Int → ByteArray → ByteArray → ByteArray → List Int → Option (Bool)
 | 0, _, _, _, _, _, _, _ => none
 | k + 1, x8, x303000, x303001, x303002, x303003, x303004, x303005 => if x8 = true then ((spec_NameOk.f k x303002).bind fun t310 => (if t310 = true then (spec_NodeOk.j4 k false x303000 x303001 x303002 x303003 x303004 x303005) else (spec_NodeOk.j4 k true x303000 x303001 x303002 x303003 x303004 x303005))) else (spec_NodeOk.j4 k (x303002.toList != ([] : List UInt8)) x303000 x303001 x303002 x303003 x303004 x303005)
def spec_NodeOk.j4 : Nat → Bool → Int → Int → ByteArray → ByteArray → ByteArray → List Int → Option (Bool)
 | 0, _, _, _, _, _, _, _ => none
 | k + 1, x108, x303000, x303001, x303002, x303003, x303004, x303005 => if x108 = true then (some false) else (if x303000 = 14 then ((spec_NameOk.f k x303003).bind fun t311 => (if t311 = true then (if x303004.toList = ([] : List UInt8) then (spec_NodeOk.j5 k x303000 x303001 x303002 x303003 x303004 x303005) else ((spec_NameOk.f k x303004).bind fun t312 => (if t312 = true then (spec_NodeOk.j5 k x303000 x303001 x303002 x303003 x303004 x303005) else (some false)))) else (some false))) else (if x303003.toList = ([] : List UInt8) then (if x303004.toList = ([] : List UInt8) then (spec_NodeOk.j5 k x303000 x303001 x303002 x303003 x303004 x303005) else (some false)) else (some false)))
def spec_NodeOk.j5 : Nat → Int → Int → ByteArray → ByteArray → ByteArray → List Int → Option (Bool)
 | 0, _, _, _, _, _, _ => none
 | k + 1, x303000, x303001, x303002, x303003, x303004, x303005 => if x303000 = 1 then ((spec_l01In.f x303001 0 1000000).bind fun t313 => (some t313)) else (if x303000 = 3 then ((spec_l01In.f x303001 1 9).bind fun t314 => (some t314)) else (some (x303001 == 0)))
end
def spec_NodeOk.f (k : Nat) (l0_0 : List (S77)) (l0_1 : List (S106)) (l0_2 : List (S103)) (a1 : Int) : Option (Bool) := (spec_l01In.f a1 0 (wrap64 ((l0_0.length : Int) - 1))).bind fun t300 => (if t300 = true then (if 0 ≤ a1 then (if a1 < (l0_0.length : Int) then (spec_NodeOk.l0 k a1 0 l0_0 l0_1 l0_2 ((rd_T77 l0_0 a1).f0) ((rd_T77 l0_0 a1).f1) ((rd_T77 l0_0 a1).f2) ((rd_T77 l0_0 a1).f3) ((rd_T77 l0_0 a1).f4) ((rd_T77 l0_0 a1).f5)) else (none)) else (none)) else (some false))
theorem spec_NodeOk.calls (k : Nat) (A0_0 : Option Addr) (c0_0 : Nat) (l0_0 : List (S77)) (A0_1 : Option Addr) (c0_1 : Nat) (l0_1 : List (S106)) (A0_2 : Option Addr) (c0_2 : Nat) (l0_2 : List (S103)) (a1 : Int) (r : Bool) (w : World) (hr0_0 : Kd.C k77 w A0_0 l0_0.length l0_0) (hc0_0 : l0_0.length ≤ c0_0) (hr0_1 : Kd.C k106 w A0_1 l0_1.length l0_1) (hc0_1 : l0_1.length ≤ c0_1) (hr0_2 : Kd.C k103 w A0_2 l0_2.length l0_2) (hc0_2 : l0_2.length ≤ c0_2) (h : spec_NodeOk.f k l0_0 l0_1 l0_2 a1 = some r) :
  Calls Try.prog 35 #[.agg #[.slice A0_0 l0_0.length c0_0, .slice A0_1 l0_1.length c0_1, .slice A0_2 l0_2.length c0_2], .int .i64 a1] w fun e w' => e = .returned (.bool r) ∧ Below w.heap.size w w' := by
 have hu40 := Try.underlying40
 have hu77 := Try.underlying77
 have HR0_0 := Aside0.mk hr0_0
 have HC0_0 := Aside0.mk hc0_0
 clear hr0_0 hc0_0
 have HR0_1 := Aside0.mk hr0_1
 have HC0_1 := Aside0.mk hc0_1
 clear hr0_1 hc0_1
 have HR0_2 := Aside0.mk hr0_2
 have HC0_2 := Aside0.mk hc0_2
 clear hr0_2 hc0_2
 have HB := Aside0.mk (Below.refl w.heap.size w)
 have H : ((spec_l01In.f a1 0 (wrap64 ((l0_0.length : Int) - 1))).bind fun t300 => (if t300 = true then (if 0 ≤ a1 then (if a1 < (l0_0.length : Int) then (spec_NodeOk.l0 k a1 0 l0_0 l0_1 l0_2 ((rd_T77 l0_0 a1).f0) ((rd_T77 l0_0 a1).f1) ((rd_T77 l0_0 a1).f2) ((rd_T77 l0_0 a1).f3) ((rd_T77 l0_0 a1).f4) ((rd_T77 l0_0 a1).f5)) else (none)) else (none)) else (some false))) = some r := h
 clear h
 obtain ⟨t300, A3, H⟩ := Bo_ H
 by_cases c4 : t300 = true
 ·subst c4
  rw [if_pos rfl] at H
  by_cases c5 : 0 ≤ a1
  ·rw [if_pos c5] at H
   have c5b0 := decide_eq_true c5
   clear c5
   by_cases c6 : a1 < (l0_0.length : Int)
   ·rw [if_pos c6] at H
    have c6b0 := decide_eq_true c6
    clear c6
    have H' := Aside0.mk H
    clear H
    go_enter Try.func35, Try.ntmps35
    go_wp2_with (first | (refine Bv_ 2 #[.slice A0_0 l0_0.length c0_0, .slice A0_1 l0_1.length c0_1, .slice A0_2 l0_2.length c0_2] 40 ?_; intro gb299 hg w7 BK299 hb; have GW299 := Hg_ HB hg; replace HB := Hs_ HB hb; clear hb hg; obtain ⟨hcz8_0, hcz8_1, hcz8_2, hfz8_0, hfz8_1, hfz8_2⟩ := Bc3_ BK299) | (go_at_call 73; (with_reducible refine (spec_l01In.calls a1 0 (wrap64 ((l0_0.length : Int) - 1)) true _ A3.out).mono ?_); rintro e w' ⟨rfl, ⟨nd, rfl⟩⟩; (try first | exact ⟨rfl, _, World.drewN_drewN _ _ _⟩ | exact ⟨rfl, _, Eq.trans (World.drewN_drewN _ _ _) (congrArg (World.drewN _) (Nat.add_assoc _ _ _))⟩); have p301 : 0 ≤ (a1 : Int) := of_decide_eq_true As_; have q301 : a1 < (l0_0.length : Int) := of_decide_eq_true As_; obtain ⟨ad301, A301_5, c301_5, e301, hx301_0, hx301_1, hx301_2, hx301_3, hx301_4, hx301_5, hl301_5, hi301_5⟩ := at_T77 HR0_0.out a1 p301 q301; cases e301; replace hx301_0 := Bw_ hx301_0 HB; replace hx301_1 := Bw_ hx301_1 HB; replace hx301_2 := Bw_ hx301_2 HB; replace hx301_3 := Bw_ hx301_3 HB; replace hx301_4 := Bw_ hx301_4 HB; replace hx301_5 := Bw_ hx301_5 HB; have HR301_5 := Aside0.mk hi301_5; have HC301_5 := Aside0.mk hl301_5; clear hi301_5 hl301_5; replace p301 := eq_true p301; replace q301 := eq_true q301) | (refine Bv_ 5 #[.int .i64 0, .int .i64 0, .string (⟨#[]⟩ : ByteArray), .string (⟨#[]⟩ : ByteArray), .string (⟨#[]⟩ : ByteArray), .slice none 0 0] 77 ?_; intro gb302 hg w9 BK302 hb; have GW302 := Hg_ HB hg; have NB299_302 := Bl_ BK299 hg; have NB302_299 := Bm_ NB299_302; replace BK299 := Bb_ BK299 hb; replace HB := Hs_ HB hb; clear hb hg; have hnb10 := NB302_299.out; have hnc10 := NB299_302.out; obtain ⟨hcz11_0, hcz11_1, hcz11_2, hcz11_3, hcz11_4, hcz11_5, hfz11_0, hfz11_1, hfz11_2, hfz11_3, hfz11_4, hfz11_5⟩ := Bc6_ BK302))
    repeat (go_quiet (first | (refine Bv_ 2 #[.slice A0_0 l0_0.length c0_0, .slice A0_1 l0_1.length c0_1, .slice A0_2 l0_2.length c0_2] 40 ?_; intro gb299 hg w7 BK299 hb; have GW299 := Hg_ HB hg; replace HB := Hs_ HB hb; clear hb hg; obtain ⟨hcz8_0, hcz8_1, hcz8_2, hfz8_0, hfz8_1, hfz8_2⟩ := Bc3_ BK299) | (go_at_call 73; (with_reducible refine (spec_l01In.calls a1 0 (wrap64 ((l0_0.length : Int) - 1)) true _ A3.out).mono ?_); rintro e w' ⟨rfl, ⟨nd, rfl⟩⟩; (try first | exact ⟨rfl, _, World.drewN_drewN _ _ _⟩ | exact ⟨rfl, _, Eq.trans (World.drewN_drewN _ _ _) (congrArg (World.drewN _) (Nat.add_assoc _ _ _))⟩); have p301 : 0 ≤ (a1 : Int) := of_decide_eq_true As_; have q301 : a1 < (l0_0.length : Int) := of_decide_eq_true As_; obtain ⟨ad301, A301_5, c301_5, e301, hx301_0, hx301_1, hx301_2, hx301_3, hx301_4, hx301_5, hl301_5, hi301_5⟩ := at_T77 HR0_0.out a1 p301 q301; cases e301; replace hx301_0 := Bw_ hx301_0 HB; replace hx301_1 := Bw_ hx301_1 HB; replace hx301_2 := Bw_ hx301_2 HB; replace hx301_3 := Bw_ hx301_3 HB; replace hx301_4 := Bw_ hx301_4 HB; replace hx301_5 := Bw_ hx301_5 HB; have HR301_5 := Aside0.mk hi301_5; have HC301_5 := Aside0.mk hl301_5; clear hi301_5 hl301_5; replace p301 := eq_true p301; replace q301 := eq_true q301) | (refine Bv_ 5 #[.int .i64 0, .int .i64 0, .string (⟨#[]⟩ : ByteArray), .string (⟨#[]⟩ : ByteArray), .string (⟨#[]⟩ : ByteArray), .slice none 0 0] 77 ?_; intro gb302 hg w9 BK302 hb; have GW302 := Hg_ HB hg; have NB299_302 := Bl_ BK299 hg; have NB302_299 := Bm_ NB299_302; replace BK299 := Bb_ BK299 hb; replace HB := Hs_ HB hb; clear hb hg; have hnb10 := NB302_299.out; have hnc10 := NB299_302.out; obtain ⟨hcz11_0, hcz11_1, hcz11_2, hcz11_3, hcz11_4, hcz11_5, hfz11_0, hfz11_1, hfz11_2, hfz11_3, hfz11_4, hfz11_5⟩ := Bc6_ BK302)); try go_wp2_with (first | (refine Bv_ 2 #[.slice A0_0 l0_0.length c0_0, .slice A0_1 l0_1.length c0_1, .slice A0_2 l0_2.length c0_2] 40 ?_; intro gb299 hg w7 BK299 hb; have GW299 := Hg_ HB hg; replace HB := Hs_ HB hb; clear hb hg; obtain ⟨hcz8_0, hcz8_1, hcz8_2, hfz8_0, hfz8_1, hfz8_2⟩ := Bc3_ BK299) | (go_at_call 73; (with_reducible refine (spec_l01In.calls a1 0 (wrap64 ((l0_0.length : Int) - 1)) true _ A3.out).mono ?_); rintro e w' ⟨rfl, ⟨nd, rfl⟩⟩; (try first | exact ⟨rfl, _, World.drewN_drewN _ _ _⟩ | exact ⟨rfl, _, Eq.trans (World.drewN_drewN _ _ _) (congrArg (World.drewN _) (Nat.add_assoc _ _ _))⟩); have p301 : 0 ≤ (a1 : Int) := of_decide_eq_true As_; have q301 : a1 < (l0_0.length : Int) := of_decide_eq_true As_; obtain ⟨ad301, A301_5, c301_5, e301, hx301_0, hx301_1, hx301_2, hx301_3, hx301_4, hx301_5, hl301_5, hi301_5⟩ := at_T77 HR0_0.out a1 p301 q301; cases e301; replace hx301_0 := Bw_ hx301_0 HB; replace hx301_1 := Bw_ hx301_1 HB; replace hx301_2 := Bw_ hx301_2 HB; replace hx301_3 := Bw_ hx301_3 HB; replace hx301_4 := Bw_ hx301_4 HB; replace hx301_5 := Bw_ hx301_5 HB; have HR301_5 := Aside0.mk hi301_5; have HC301_5 := Aside0.mk hl301_5; clear hi301_5 hl301_5; replace p301 := eq_true p301; replace q301 := eq_true q301) | (refine Bv_ 5 #[.int .i64 0, .int .i64 0, .string (⟨#[]⟩ : ByteArray), .string (⟨#[]⟩ : ByteArray), .string (⟨#[]⟩ : ByteArray), .slice none 0 0] 77 ?_; intro gb302 hg w9 BK302 hb; have GW302 := Hg_ HB hg; have NB299_302 := Bl_ BK299 hg; have NB302_299 := Bm_ NB299_302; replace BK299 := Bb_ BK299 hb; replace HB := Hs_ HB hb; clear hb hg; have hnb10 := NB302_299.out; have hnc10 := NB299_302.out; obtain ⟨hcz11_0, hcz11_1, hcz11_2, hcz11_3, hcz11_4, hcz11_5, hfz11_0, hfz11_1, hfz11_2, hfz11_3, hfz11_4, hfz11_5⟩ := Bc6_ BK302)))
    go_loopg [6] k (fun kq v6 w' => ∃ (x6_1 : Int), v6 = .int .i64 x6_1 ∧ Aside0 (spec_NodeOk.l0 kq a1 x6_1 l0_0 l0_1 l0_2 ((rd_T77 l0_0 a1).f0) ((rd_T77 l0_0 a1).f1) ((rd_T77 l0_0 a1).f2) ((rd_T77 l0_0 a1).f3) ((rd_T77 l0_0 a1).f4) ((rd_T77 l0_0 a1).f5) = some r) ∧ Aside0 (kq ≤ k) ∧ Aside0 (w'.heap[gb299]? = some (.cells #[(.slice (some ad301) l0_0.length c0_0), (.slice A0_1 l0_1.length c0_1), (.slice A0_2 l0_2.length c0_2)] 40 (0, 0))) ∧ Aside0 (w'.heap[gb302]? = some (.cells #[.int .i64 ((rd_T77 l0_0 a1).f0), .int .i64 ((rd_T77 l0_0 a1).f1), .string ((rd_T77 l0_0 a1).f2), .string ((rd_T77 l0_0 a1).f3), .string ((rd_T77 l0_0 a1).f4), (.slice A301_5 ((rd_T77 l0_0 a1).f5).length c301_5)] 77 (0, 0))) ∧ Aside0 (Below w.heap.size w w'))
    case atStart => exact ⟨(0), Rr_, H', ⟨Nat.le_refl _⟩, ⟨by (with_reducible repeat (first | refine blk_drewN ?_ _ | refine blk_drew ?_ | refine blk_alloc ?_ _)); refine blk_far ?_ NB299_302.out _; (with_reducible repeat (first | refine blk_drewN ?_ _ | refine blk_drew ?_ | refine blk_alloc ?_ _)); refine blk_far ?_ NB299_302.out _; (with_reducible repeat (first | refine blk_drewN ?_ _ | refine blk_drew ?_ | refine blk_alloc ?_ _)); refine blk_far ?_ NB299_302.out _; (with_reducible repeat (first | refine blk_drewN ?_ _ | refine blk_drew ?_ | refine blk_alloc ?_ _)); refine blk_far ?_ NB299_302.out _; (with_reducible repeat (first | refine blk_drewN ?_ _ | refine blk_drew ?_ | refine blk_alloc ?_ _)); refine blk_far ?_ NB299_302.out _; (with_reducible repeat (first | refine blk_drewN ?_ _ | refine blk_drew ?_ | refine blk_alloc ?_ _)); refine blk_far ?_ NB299_302.out _; (with_reducible repeat (first | refine blk_drewN ?_ _ | refine blk_drew ?_ | refine blk_alloc ?_ _)); exact BK299.out⟩, ⟨by (with_reducible repeat (first | refine blk_drewN ?_ _ | refine blk_drew ?_ | refine blk_alloc ?_ _)); refine blk_put (cs := #[.int .i64 ((rd_T77 l0_0 a1).f0), .int .i64 ((rd_T77 l0_0 a1).f1), .string ((rd_T77 l0_0 a1).f2), .string ((rd_T77 l0_0 a1).f3), .string ((rd_T77 l0_0 a1).f4), .slice none 0 0]) ?_ 5 _ rfl; (with_reducible repeat (first | refine blk_drewN ?_ _ | refine blk_drew ?_ | refine blk_alloc ?_ _)); refine blk_put (cs := #[.int .i64 ((rd_T77 l0_0 a1).f0), .int .i64 ((rd_T77 l0_0 a1).f1), .string ((rd_T77 l0_0 a1).f2), .string ((rd_T77 l0_0 a1).f3), .string (⟨#[]⟩ : ByteArray), .slice none 0 0]) ?_ 4 _ rfl; (with_reducible repeat (first | refine blk_drewN ?_ _ | refine blk_drew ?_ | refine blk_alloc ?_ _)); refine blk_put (cs := #[.int .i64 ((rd_T77 l0_0 a1).f0), .int .i64 ((rd_T77 l0_0 a1).f1), .string ((rd_T77 l0_0 a1).f2), .string (⟨#[]⟩ : ByteArray), .string (⟨#[]⟩ : ByteArray), .slice none 0 0]) ?_ 3 _ rfl; (with_reducible repeat (first | refine blk_drewN ?_ _ | refine blk_drew ?_ | refine blk_alloc ?_ _)); refine blk_put (cs := #[.int .i64 ((rd_T77 l0_0 a1).f0), .int .i64 ((rd_T77 l0_0 a1).f1), .string (⟨#[]⟩ : ByteArray), .string (⟨#[]⟩ : ByteArray), .string (⟨#[]⟩ : ByteArray), .slice none 0 0]) ?_ 2 _ rfl; (with_reducible repeat (first | refine blk_drewN ?_ _ | refine blk_drew ?_ | refine blk_alloc ?_ _)); refine blk_put (cs := #[.int .i64 ((rd_T77 l0_0 a1).f0), .int .i64 0, .string (⟨#[]⟩ : ByteArray), .string (⟨#[]⟩ : ByteArray), .string (⟨#[]⟩ : ByteArray), .slice none 0 0]) ?_ 1 _ rfl; (with_reducible repeat (first | refine blk_drewN ?_ _ | refine blk_drew ?_ | refine blk_alloc ?_ _)); refine blk_put (cs := #[.int .i64 0, .int .i64 0, .string (⟨#[]⟩ : ByteArray), .string (⟨#[]⟩ : ByteArray), .string (⟨#[]⟩ : ByteArray), .slice none 0 0]) ?_ 0 _ rfl; (with_reducible repeat (first | refine blk_drewN ?_ _ | refine blk_drew ?_ | refine blk_alloc ?_ _)); exact BK302.out⟩, ⟨Hf_ HB⟩⟩
    case round =>
     clear H'
     clear c5b0 c6b0 hcz11_0 hcz11_1 hcz11_2 hcz11_3 hcz11_4 hcz11_5 hcz8_0 hcz8_1 hcz8_2 hfz11_0 hfz11_1 hfz11_2 hfz11_3 hfz11_4 hfz11_5 hfz8_0 hfz8_1 hfz8_2 hx301_0 hx301_1 hx301_2 hx301_3 hx301_4 hx301_5 p301 q301
     obtain ⟨x6_1, rfl, HA, HK1, BK299, BK302, HB⟩ := hrel
     cases gk with
     | zero => exact absurd HA.out (by simp [spec_NodeOk.l0])
     | succ k1 =>
      have H := HA.out
      clear HA
      simp only [spec_NodeOk.l0] at H
      by_cases c12 : x6_1 < (((rd_T77 l0_0 a1).f5).length : Int)
      ·rw [if_pos c12] at H
       have c12b0 := decide_eq_true c12
       clear c12
       have H' := Aside0.mk H
       clear H
       have hnb13 := NB302_299.out
       have hnc13 := NB299_302.out
       obtain ⟨hcz14_0, hcz14_1, hcz14_2, hcz14_3, hcz14_4, hcz14_5, hfz14_0, hfz14_1, hfz14_2, hfz14_3, hfz14_4, hfz14_5⟩ := Bc6_ BK302
       go_wp2
       repeat (go_quiet (fail); try go_wp2)
       go_loopg [7] k1 (fun kq v7 w' => ∃ (x7_2 : Int), v7 = .int .i64 x7_2 ∧ Aside0 (spec_NodeOk.l1 kq a1 x6_1 x7_2 l0_0 l0_1 l0_2 ((rd_T77 l0_0 a1).f0) ((rd_T77 l0_0 a1).f1) ((rd_T77 l0_0 a1).f2) ((rd_T77 l0_0 a1).f3) ((rd_T77 l0_0 a1).f4) ((rd_T77 l0_0 a1).f5) = some r) ∧ Aside0 (kq ≤ k1) ∧ Aside0 (w'.heap[gb299]? = some (.cells #[(.slice (some ad301) l0_0.length c0_0), (.slice A0_1 l0_1.length c0_1), (.slice A0_2 l0_2.length c0_2)] 40 (0, 0))) ∧ Aside0 (w'.heap[gb302]? = some (.cells #[.int .i64 ((rd_T77 l0_0 a1).f0), .int .i64 ((rd_T77 l0_0 a1).f1), .string ((rd_T77 l0_0 a1).f2), .string ((rd_T77 l0_0 a1).f3), .string ((rd_T77 l0_0 a1).f4), (.slice A301_5 ((rd_T77 l0_0 a1).f5).length c301_5)] 77 (0, 0))) ∧ Aside0 (Below w.heap.size w w'))
       case atStart => exact ⟨(0), Rr_, H', ⟨Nat.le_refl _⟩, ⟨Bq_ BK299⟩, ⟨Bq_ BK302⟩, ⟨Hf_ HB⟩⟩
       case round =>
        clear H'
        clear c12b0 hcz14_0 hcz14_1 hcz14_2 hcz14_3 hcz14_4 hcz14_5 hfz14_0 hfz14_1 hfz14_2 hfz14_3 hfz14_4 hfz14_5
        obtain ⟨x7_2, rfl, HA, HK2, BK299, BK302, HB⟩ := hrel
        cases gk with
        | zero => exact absurd HA.out (by simp [spec_NodeOk.l1])
        | succ k2 =>
         have H := HA.out
         clear HA
         simp only [spec_NodeOk.l1] at H
         by_cases c15 : x7_2 < x6_1
         ·rw [if_pos c15] at H
          have c15b0 := decide_eq_true c15
          clear c15
          by_cases c16 : 0 ≤ x6_1
          ·rw [if_pos c16] at H
           have c16b0 := decide_eq_true c16
           clear c16
           by_cases c17 : x6_1 < (((rd_T77 l0_0 a1).f5).length : Int)
           ·rw [if_pos c17] at H
            have c17b0 := decide_eq_true c17
            clear c17
            by_cases c18 : 0 ≤ x7_2
            ·rw [if_pos c18] at H
             have c18b0 := decide_eq_true c18
             clear c18
             by_cases c19 : x7_2 < (((rd_T77 l0_0 a1).f5).length : Int)
             ·rw [if_pos c19] at H
              have c19b0 := decide_eq_true c19
              clear c19
              by_cases c20 : (rd ((rd_T77 l0_0 a1).f5) x6_1) = (rd ((rd_T77 l0_0 a1).f5) x7_2)
              ·rw [if_pos c20] at H
               have c20b0 := beq_iff_eq.mpr c20
               have c20b1 := bne_eq_false_iff_eq.mpr c20
               clear c20
               obtain rfl := Option.some.inj H
               have hnb21 := NB302_299.out
               have hnc21 := NB299_302.out
               obtain ⟨hcz22_0, hcz22_1, hcz22_2, hcz22_3, hcz22_4, hcz22_5, hfz22_0, hfz22_1, hfz22_2, hfz22_3, hfz22_4, hfz22_5⟩ := Bc6_ BK302
               have p303 : 0 ≤ (x6_1 : Int) := of_decide_eq_true As_
               have q303 : x6_1 < (((rd_T77 l0_0 a1).f5).length : Int) := of_decide_eq_true As_
               obtain ⟨ad303, e303, hx303_0⟩ := Kd.at_int HR301_5.out x6_1 p303 q303
               cases e303
               replace hx303_0 := Bw_ hx303_0 HB
               replace p303 := eq_true p303
               replace q303 := eq_true q303
               have p304 : 0 ≤ (x7_2 : Int) := of_decide_eq_true As_
               have q304 : x7_2 < (((rd_T77 l0_0 a1).f5).length : Int) := of_decide_eq_true As_
               obtain ⟨ad304, e304, hx304_0⟩ := Kd.at_int HR301_5.out x7_2 p304 q304
               obtain rfl : ad303 = ad304 := (by injection e304)
               replace hx304_0 := Bw_ hx304_0 HB
               replace p304 := eq_true p304
               replace q304 := eq_true q304
               go_wp2
               repeat (go_quiet (fail); try go_wp2)
               go_ret
               exact ⟨Re_, Hf_ HB⟩
              ·rw [if_neg c20] at H
               have c20b0 := beq_eq_false_iff_ne.mpr c20
               have c20b1 := bne_iff_ne.mpr c20
               have H' := Aside0.mk H
               clear H
               have hnb23 := NB302_299.out
               have hnc23 := NB299_302.out
               obtain ⟨hcz24_0, hcz24_1, hcz24_2, hcz24_3, hcz24_4, hcz24_5, hfz24_0, hfz24_1, hfz24_2, hfz24_3, hfz24_4, hfz24_5⟩ := Bc6_ BK302
               have p303 : 0 ≤ (x6_1 : Int) := of_decide_eq_true As_
               have q303 : x6_1 < (((rd_T77 l0_0 a1).f5).length : Int) := of_decide_eq_true As_
               obtain ⟨ad303, e303, hx303_0⟩ := Kd.at_int HR301_5.out x6_1 p303 q303
               cases e303
               replace hx303_0 := Bw_ hx303_0 HB
               replace p303 := eq_true p303
               replace q303 := eq_true q303
               have p304 : 0 ≤ (x7_2 : Int) := of_decide_eq_true As_
               have q304 : x7_2 < (((rd_T77 l0_0 a1).f5).length : Int) := of_decide_eq_true As_
               obtain ⟨ad304, e304, hx304_0⟩ := Kd.at_int HR301_5.out x7_2 p304 q304
               obtain rfl : ad303 = ad304 := (by injection e304)
               replace hx304_0 := Bw_ hx304_0 HB
               replace p304 := eq_true p304
               replace q304 := eq_true q304
               go_wp2
               repeat (go_quiet (fail); try go_wp2)
               go_roundg k2
               case measure => have := HK1.out; have := HK2.out; omega
               case rel => exact ⟨(wrap64 (x7_2 + 1)), Rr_, H', ⟨by have := HK1.out; have := HK2.out; omega⟩, ⟨Bq_ BK299⟩, ⟨Bq_ BK302⟩, ⟨Hf_ HB⟩⟩
             ·rw [if_neg c19] at H
              exact absurd H (by simp)
            ·rw [if_neg c18] at H
             exact absurd H (by simp)
           ·rw [if_neg c17] at H
            exact absurd H (by simp)
          ·rw [if_neg c16] at H
           exact absurd H (by simp)
         ·rw [if_neg c15] at H
          have c15b0 := decide_eq_false c15
          clear c15
          have H' := Aside0.mk H
          clear H
          go_wp2
          repeat (go_quiet (fail); try go_wp2)
          go_roundg k2
          case measure => have := HK1.out; have := HK2.out; omega
          case rel => exact ⟨(wrap64 (x6_1 + 1)), Rr_, H', ⟨by have := HK1.out; have := HK2.out; omega⟩, ⟨Bq_ BK299⟩, ⟨Bq_ BK302⟩, ⟨Hf_ HB⟩⟩
      ·rw [if_neg c12] at H
       have c12b0 := decide_eq_false c12
       clear c12
       have HC25 := Aside0.mk H
       clear H
       have hnb26 := NB302_299.out
       have hnc26 := NB299_302.out
       obtain ⟨hcz27_0, hcz27_1, hcz27_2, hcz27_3, hcz27_4, hcz27_5, hfz27_0, hfz27_1, hfz27_2, hfz27_3, hfz27_4, hfz27_5⟩ := Bc6_ BK302
       go_upto_region 12 with (fail)
       repeat (go_quiet (fail); go_upto_region 12 with (fail))
       go_cut [64] (fun v64 wc => ∃ (kq : Nat) (x64_24 : Bool), v64 = .bool x64_24 ∧ Aside0 (spec_NodeOk.j2 kq x64_24 ((rd_T77 l0_0 a1).f0) ((rd_T77 l0_0 a1).f1) ((rd_T77 l0_0 a1).f2) ((rd_T77 l0_0 a1).f3) ((rd_T77 l0_0 a1).f4) ((rd_T77 l0_0 a1).f5) = some r) ∧ Aside0 (kq ≤ k1) ∧ Aside0 (wc.heap[gb299]? = some (.cells #[(.slice (some ad301) l0_0.length c0_0), (.slice A0_1 l0_1.length c0_1), (.slice A0_2 l0_2.length c0_2)] 40 (0, 0))) ∧ Aside0 (wc.heap[gb302]? = some (.cells #[.int .i64 ((rd_T77 l0_0 a1).f0), .int .i64 ((rd_T77 l0_0 a1).f1), .string ((rd_T77 l0_0 a1).f2), .string ((rd_T77 l0_0 a1).f3), .string ((rd_T77 l0_0 a1).f4), (.slice A301_5 ((rd_T77 l0_0 a1).f5).length c301_5)] 77 (0, 0))) ∧ Aside0 (Below w.heap.size w wc))
       case first =>
        have H := HC25.out
        clear HC25
        obtain ⟨t305, A28, H⟩ := Bo_ H
        by_cases c29 : t305 = true
        ·subst c29
         rw [if_pos rfl] at H
         obtain ⟨t306, A30, H⟩ := Bo_ H
         have H' := Aside0.mk H
         clear H
         have hnb31 := NB302_299.out
         have hnc31 := NB299_302.out
         obtain ⟨hcz32_0, hcz32_1, hcz32_2, hcz32_3, hcz32_4, hcz32_5, hfz32_0, hfz32_1, hfz32_2, hfz32_3, hfz32_4, hfz32_5⟩ := Bc6_ BK302
         go_wp2_with (first | (go_at_call 74; (with_reducible refine (spec_l05Value.calls ((rd_T77 l0_0 a1).f0) true _ A28.out).mono ?_); rintro e w' ⟨rfl, ⟨nd, rfl⟩⟩; (try first | exact ⟨rfl, _, World.drewN_drewN _ _ _⟩ | exact ⟨rfl, _, Eq.trans (World.drewN_drewN _ _ _) (congrArg (World.drewN _) (Nat.add_assoc _ _ _))⟩); obtain ⟨hcz33_0, hcz33_1, hcz33_2, hfz33_0, hfz33_1, hfz33_2⟩ := Bc3_ BK299) | (go_at_call 76; (refine (spec_l05Kids.calls k1 _ _ l0_0 _ _ l0_1 _ _ l0_2 a1 t306 _ (Sh_ HR0_0 HB) HC0_0.out (Sh_ HR0_1 HB) HC0_1.out (Sh_ HR0_2 HB) HC0_2.out A30.out).mono ?_); rintro e w34 ⟨rfl, hb⟩; replace BK299 := Bb_ BK299 hb; replace BK302 := Bb_ BK302 hb; replace HB := Hs_ HB hb; clear hb))
         repeat (go_quiet (first | (go_at_call 74; (with_reducible refine (spec_l05Value.calls ((rd_T77 l0_0 a1).f0) true _ A28.out).mono ?_); rintro e w' ⟨rfl, ⟨nd, rfl⟩⟩; (try first | exact ⟨rfl, _, World.drewN_drewN _ _ _⟩ | exact ⟨rfl, _, Eq.trans (World.drewN_drewN _ _ _) (congrArg (World.drewN _) (Nat.add_assoc _ _ _))⟩); obtain ⟨hcz33_0, hcz33_1, hcz33_2, hfz33_0, hfz33_1, hfz33_2⟩ := Bc3_ BK299) | (go_at_call 76; (refine (spec_l05Kids.calls k1 _ _ l0_0 _ _ l0_1 _ _ l0_2 a1 t306 _ (Sh_ HR0_0 HB) HC0_0.out (Sh_ HR0_1 HB) HC0_1.out (Sh_ HR0_2 HB) HC0_2.out A30.out).mono ?_); rintro e w34 ⟨rfl, hb⟩; replace BK299 := Bb_ BK299 hb; replace BK302 := Bb_ BK302 hb; replace HB := Hs_ HB hb; clear hb)); try go_wp2_with (first | (go_at_call 74; (with_reducible refine (spec_l05Value.calls ((rd_T77 l0_0 a1).f0) true _ A28.out).mono ?_); rintro e w' ⟨rfl, ⟨nd, rfl⟩⟩; (try first | exact ⟨rfl, _, World.drewN_drewN _ _ _⟩ | exact ⟨rfl, _, Eq.trans (World.drewN_drewN _ _ _) (congrArg (World.drewN _) (Nat.add_assoc _ _ _))⟩); obtain ⟨hcz33_0, hcz33_1, hcz33_2, hfz33_0, hfz33_1, hfz33_2⟩ := Bc3_ BK299) | (go_at_call 76; (refine (spec_l05Kids.calls k1 _ _ l0_0 _ _ l0_1 _ _ l0_2 a1 t306 _ (Sh_ HR0_0 HB) HC0_0.out (Sh_ HR0_1 HB) HC0_1.out (Sh_ HR0_2 HB) HC0_2.out A30.out).mono ?_); rintro e w34 ⟨rfl, hb⟩; replace BK299 := Bb_ BK299 hb; replace BK302 := Bb_ BK302 hb; replace HB := Hs_ HB hb; clear hb)))
         go_meet
         case rel => exact ⟨_, (!t306), Rr_, H', ⟨by have := HK1.out; first | omega | exact Nat.le_refl _⟩, ⟨Bq_ BK299⟩, ⟨Bq_ BK302⟩, ⟨Hf_ HB⟩⟩
        ·replace c29 := Bool.eq_false_iff.mpr c29
         subst c29
         rw [if_neg Ff_] at H
         obtain ⟨t307, A35, H⟩ := Bo_ H
         by_cases c36 : t307 = true
         ·subst c36
          rw [if_pos rfl] at H
          obtain ⟨t308, A37, H⟩ := Bo_ H
          have H' := Aside0.mk H
          clear H
          have hnb38 := NB302_299.out
          have hnc38 := NB299_302.out
          obtain ⟨hcz39_0, hcz39_1, hcz39_2, hcz39_3, hcz39_4, hcz39_5, hfz39_0, hfz39_1, hfz39_2, hfz39_3, hfz39_4, hfz39_5⟩ := Bc6_ BK302
          go_wp2_with (first | (go_at_call 74; (with_reducible refine (spec_l05Value.calls ((rd_T77 l0_0 a1).f0) false _ A28.out).mono ?_); rintro e w' ⟨rfl, ⟨nd, rfl⟩⟩; (try first | exact ⟨rfl, _, World.drewN_drewN _ _ _⟩ | exact ⟨rfl, _, Eq.trans (World.drewN_drewN _ _ _) (congrArg (World.drewN _) (Nat.add_assoc _ _ _))⟩)) | (go_at_call 75; (with_reducible refine (spec_l05Statement.calls ((rd_T77 l0_0 a1).f0) true _ A35.out).mono ?_); rintro e w' ⟨rfl, ⟨nd, rfl⟩⟩; (try first | exact ⟨rfl, _, World.drewN_drewN _ _ _⟩ | exact ⟨rfl, _, Eq.trans (World.drewN_drewN _ _ _) (congrArg (World.drewN _) (Nat.add_assoc _ _ _))⟩); obtain ⟨hcz40_0, hcz40_1, hcz40_2, hfz40_0, hfz40_1, hfz40_2⟩ := Bc3_ BK299) | (go_at_call 76; (refine (spec_l05Kids.calls k1 _ _ l0_0 _ _ l0_1 _ _ l0_2 a1 t308 _ (Sh_ HR0_0 HB) HC0_0.out (Sh_ HR0_1 HB) HC0_1.out (Sh_ HR0_2 HB) HC0_2.out A37.out).mono ?_); rintro e w41 ⟨rfl, hb⟩; replace BK299 := Bb_ BK299 hb; replace BK302 := Bb_ BK302 hb; replace HB := Hs_ HB hb; clear hb))
          repeat (go_quiet (first | (go_at_call 74; (with_reducible refine (spec_l05Value.calls ((rd_T77 l0_0 a1).f0) false _ A28.out).mono ?_); rintro e w' ⟨rfl, ⟨nd, rfl⟩⟩; (try first | exact ⟨rfl, _, World.drewN_drewN _ _ _⟩ | exact ⟨rfl, _, Eq.trans (World.drewN_drewN _ _ _) (congrArg (World.drewN _) (Nat.add_assoc _ _ _))⟩)) | (go_at_call 75; (with_reducible refine (spec_l05Statement.calls ((rd_T77 l0_0 a1).f0) true _ A35.out).mono ?_); rintro e w' ⟨rfl, ⟨nd, rfl⟩⟩; (try first | exact ⟨rfl, _, World.drewN_drewN _ _ _⟩ | exact ⟨rfl, _, Eq.trans (World.drewN_drewN _ _ _) (congrArg (World.drewN _) (Nat.add_assoc _ _ _))⟩); obtain ⟨hcz40_0, hcz40_1, hcz40_2, hfz40_0, hfz40_1, hfz40_2⟩ := Bc3_ BK299) | (go_at_call 76; (refine (spec_l05Kids.calls k1 _ _ l0_0 _ _ l0_1 _ _ l0_2 a1 t308 _ (Sh_ HR0_0 HB) HC0_0.out (Sh_ HR0_1 HB) HC0_1.out (Sh_ HR0_2 HB) HC0_2.out A37.out).mono ?_); rintro e w41 ⟨rfl, hb⟩; replace BK299 := Bb_ BK299 hb; replace BK302 := Bb_ BK302 hb; replace HB := Hs_ HB hb; clear hb)); try go_wp2_with (first | (go_at_call 74; (with_reducible refine (spec_l05Value.calls ((rd_T77 l0_0 a1).f0) false _ A28.out).mono ?_); rintro e w' ⟨rfl, ⟨nd, rfl⟩⟩; (try first | exact ⟨rfl, _, World.drewN_drewN _ _ _⟩ | exact ⟨rfl, _, Eq.trans (World.drewN_drewN _ _ _) (congrArg (World.drewN _) (Nat.add_assoc _ _ _))⟩)) | (go_at_call 75; (with_reducible refine (spec_l05Statement.calls ((rd_T77 l0_0 a1).f0) true _ A35.out).mono ?_); rintro e w' ⟨rfl, ⟨nd, rfl⟩⟩; (try first | exact ⟨rfl, _, World.drewN_drewN _ _ _⟩ | exact ⟨rfl, _, Eq.trans (World.drewN_drewN _ _ _) (congrArg (World.drewN _) (Nat.add_assoc _ _ _))⟩); obtain ⟨hcz40_0, hcz40_1, hcz40_2, hfz40_0, hfz40_1, hfz40_2⟩ := Bc3_ BK299) | (go_at_call 76; (refine (spec_l05Kids.calls k1 _ _ l0_0 _ _ l0_1 _ _ l0_2 a1 t308 _ (Sh_ HR0_0 HB) HC0_0.out (Sh_ HR0_1 HB) HC0_1.out (Sh_ HR0_2 HB) HC0_2.out A37.out).mono ?_); rintro e w41 ⟨rfl, hb⟩; replace BK299 := Bb_ BK299 hb; replace BK302 := Bb_ BK302 hb; replace HB := Hs_ HB hb; clear hb)))
          go_meet
          case rel => exact ⟨_, (!t308), Rr_, H', ⟨by have := HK1.out; first | omega | exact Nat.le_refl _⟩, ⟨Bq_ BK299⟩, ⟨Bq_ BK302⟩, ⟨Hf_ HB⟩⟩
         ·replace c36 := Bool.eq_false_iff.mpr c36
          subst c36
          rw [if_neg Ff_] at H
          by_cases c42 : ((rd_T77 l0_0 a1).f0) = 20
          ·rw [if_pos c42] at H
           have c42b0 := beq_iff_eq.mpr c42
           have c42b1 := bne_eq_false_iff_eq.mpr c42
           clear c42
           (first | rw [c42b0] | (simp only [i64_w, i32_w]; rw [c42b0]) | skip)
           obtain ⟨t309, A43, H⟩ := Bo_ H
           have H' := Aside0.mk H
           clear H
           have hnb44 := NB302_299.out
           have hnc44 := NB299_302.out
           obtain ⟨hcz45_0, hcz45_1, hcz45_2, hcz45_3, hcz45_4, hcz45_5, hfz45_0, hfz45_1, hfz45_2, hfz45_3, hfz45_4, hfz45_5⟩ := Bc6_ BK302
           go_wp2_with (first | (go_at_call 74; (with_reducible refine (spec_l05Value.calls ((rd_T77 l0_0 a1).f0) false _ A28.out).mono ?_); rintro e w' ⟨rfl, ⟨nd, rfl⟩⟩; (try first | exact ⟨rfl, _, World.drewN_drewN _ _ _⟩ | exact ⟨rfl, _, Eq.trans (World.drewN_drewN _ _ _) (congrArg (World.drewN _) (Nat.add_assoc _ _ _))⟩)) | (go_at_call 75; (with_reducible refine (spec_l05Statement.calls ((rd_T77 l0_0 a1).f0) false _ A35.out).mono ?_); rintro e w' ⟨rfl, ⟨nd, rfl⟩⟩; (try first | exact ⟨rfl, _, World.drewN_drewN _ _ _⟩ | exact ⟨rfl, _, Eq.trans (World.drewN_drewN _ _ _) (congrArg (World.drewN _) (Nat.add_assoc _ _ _))⟩); obtain ⟨hcz46_0, hcz46_1, hcz46_2, hfz46_0, hfz46_1, hfz46_2⟩ := Bc3_ BK299) | (go_at_call 76; (refine (spec_l05Kids.calls k1 _ _ l0_0 _ _ l0_1 _ _ l0_2 a1 t309 _ (Sh_ HR0_0 HB) HC0_0.out (Sh_ HR0_1 HB) HC0_1.out (Sh_ HR0_2 HB) HC0_2.out A43.out).mono ?_); rintro e w47 ⟨rfl, hb⟩; replace BK299 := Bb_ BK299 hb; replace BK302 := Bb_ BK302 hb; replace HB := Hs_ HB hb; clear hb))
           repeat (go_quiet (first | (go_at_call 74; (with_reducible refine (spec_l05Value.calls ((rd_T77 l0_0 a1).f0) false _ A28.out).mono ?_); rintro e w' ⟨rfl, ⟨nd, rfl⟩⟩; (try first | exact ⟨rfl, _, World.drewN_drewN _ _ _⟩ | exact ⟨rfl, _, Eq.trans (World.drewN_drewN _ _ _) (congrArg (World.drewN _) (Nat.add_assoc _ _ _))⟩)) | (go_at_call 75; (with_reducible refine (spec_l05Statement.calls ((rd_T77 l0_0 a1).f0) false _ A35.out).mono ?_); rintro e w' ⟨rfl, ⟨nd, rfl⟩⟩; (try first | exact ⟨rfl, _, World.drewN_drewN _ _ _⟩ | exact ⟨rfl, _, Eq.trans (World.drewN_drewN _ _ _) (congrArg (World.drewN _) (Nat.add_assoc _ _ _))⟩); obtain ⟨hcz46_0, hcz46_1, hcz46_2, hfz46_0, hfz46_1, hfz46_2⟩ := Bc3_ BK299) | (go_at_call 76; (refine (spec_l05Kids.calls k1 _ _ l0_0 _ _ l0_1 _ _ l0_2 a1 t309 _ (Sh_ HR0_0 HB) HC0_0.out (Sh_ HR0_1 HB) HC0_1.out (Sh_ HR0_2 HB) HC0_2.out A43.out).mono ?_); rintro e w47 ⟨rfl, hb⟩; replace BK299 := Bb_ BK299 hb; replace BK302 := Bb_ BK302 hb; replace HB := Hs_ HB hb; clear hb)); try go_wp2_with (first | (go_at_call 74; (with_reducible refine (spec_l05Value.calls ((rd_T77 l0_0 a1).f0) false _ A28.out).mono ?_); rintro e w' ⟨rfl, ⟨nd, rfl⟩⟩; (try first | exact ⟨rfl, _, World.drewN_drewN _ _ _⟩ | exact ⟨rfl, _, Eq.trans (World.drewN_drewN _ _ _) (congrArg (World.drewN _) (Nat.add_assoc _ _ _))⟩)) | (go_at_call 75; (with_reducible refine (spec_l05Statement.calls ((rd_T77 l0_0 a1).f0) false _ A35.out).mono ?_); rintro e w' ⟨rfl, ⟨nd, rfl⟩⟩; (try first | exact ⟨rfl, _, World.drewN_drewN _ _ _⟩ | exact ⟨rfl, _, Eq.trans (World.drewN_drewN _ _ _) (congrArg (World.drewN _) (Nat.add_assoc _ _ _))⟩); obtain ⟨hcz46_0, hcz46_1, hcz46_2, hfz46_0, hfz46_1, hfz46_2⟩ := Bc3_ BK299) | (go_at_call 76; (refine (spec_l05Kids.calls k1 _ _ l0_0 _ _ l0_1 _ _ l0_2 a1 t309 _ (Sh_ HR0_0 HB) HC0_0.out (Sh_ HR0_1 HB) HC0_1.out (Sh_ HR0_2 HB) HC0_2.out A43.out).mono ?_); rintro e w47 ⟨rfl, hb⟩; replace BK299 := Bb_ BK299 hb; replace BK302 := Bb_ BK302 hb; replace HB := Hs_ HB hb; clear hb)))
           go_meet
           case rel => exact ⟨_, (!t309), Rr_, H', ⟨by have := HK1.out; first | omega | exact Nat.le_refl _⟩, ⟨Bq_ BK299⟩, ⟨Bq_ BK302⟩, ⟨Hf_ HB⟩⟩
          ·rw [if_neg c42] at H
           have c42b0 := beq_eq_false_iff_ne.mpr c42
           have c42b1 := bne_iff_ne.mpr c42
           (first | rw [c42b0] | (simp only [i64_w, i32_w]; rw [c42b0]) | skip)
           have H' := Aside0.mk H
           clear H
           have hnb48 := NB302_299.out
           have hnc48 := NB299_302.out
           obtain ⟨hcz49_0, hcz49_1, hcz49_2, hcz49_3, hcz49_4, hcz49_5, hfz49_0, hfz49_1, hfz49_2, hfz49_3, hfz49_4, hfz49_5⟩ := Bc6_ BK302
           go_wp2_with (first | (go_at_call 74; (with_reducible refine (spec_l05Value.calls ((rd_T77 l0_0 a1).f0) false _ A28.out).mono ?_); rintro e w' ⟨rfl, ⟨nd, rfl⟩⟩; (try first | exact ⟨rfl, _, World.drewN_drewN _ _ _⟩ | exact ⟨rfl, _, Eq.trans (World.drewN_drewN _ _ _) (congrArg (World.drewN _) (Nat.add_assoc _ _ _))⟩)) | (go_at_call 75; (with_reducible refine (spec_l05Statement.calls ((rd_T77 l0_0 a1).f0) false _ A35.out).mono ?_); rintro e w' ⟨rfl, ⟨nd, rfl⟩⟩; (try first | exact ⟨rfl, _, World.drewN_drewN _ _ _⟩ | exact ⟨rfl, _, Eq.trans (World.drewN_drewN _ _ _) (congrArg (World.drewN _) (Nat.add_assoc _ _ _))⟩)))
           repeat (go_quiet (first | (go_at_call 74; (with_reducible refine (spec_l05Value.calls ((rd_T77 l0_0 a1).f0) false _ A28.out).mono ?_); rintro e w' ⟨rfl, ⟨nd, rfl⟩⟩; (try first | exact ⟨rfl, _, World.drewN_drewN _ _ _⟩ | exact ⟨rfl, _, Eq.trans (World.drewN_drewN _ _ _) (congrArg (World.drewN _) (Nat.add_assoc _ _ _))⟩)) | (go_at_call 75; (with_reducible refine (spec_l05Statement.calls ((rd_T77 l0_0 a1).f0) false _ A35.out).mono ?_); rintro e w' ⟨rfl, ⟨nd, rfl⟩⟩; (try first | exact ⟨rfl, _, World.drewN_drewN _ _ _⟩ | exact ⟨rfl, _, Eq.trans (World.drewN_drewN _ _ _) (congrArg (World.drewN _) (Nat.add_assoc _ _ _))⟩))); try go_wp2_with (first | (go_at_call 74; (with_reducible refine (spec_l05Value.calls ((rd_T77 l0_0 a1).f0) false _ A28.out).mono ?_); rintro e w' ⟨rfl, ⟨nd, rfl⟩⟩; (try first | exact ⟨rfl, _, World.drewN_drewN _ _ _⟩ | exact ⟨rfl, _, Eq.trans (World.drewN_drewN _ _ _) (congrArg (World.drewN _) (Nat.add_assoc _ _ _))⟩)) | (go_at_call 75; (with_reducible refine (spec_l05Statement.calls ((rd_T77 l0_0 a1).f0) false _ A35.out).mono ?_); rintro e w' ⟨rfl, ⟨nd, rfl⟩⟩; (try first | exact ⟨rfl, _, World.drewN_drewN _ _ _⟩ | exact ⟨rfl, _, Eq.trans (World.drewN_drewN _ _ _) (congrArg (World.drewN _) (Nat.add_assoc _ _ _))⟩))))
           go_meet
           case rel => exact ⟨_, (true), Rr_, H', ⟨by have := HK1.out; first | omega | exact Nat.le_refl _⟩, ⟨Bq_ BK299⟩, ⟨Bq_ BK302⟩, ⟨Hf_ HB⟩⟩
       case rest =>
        clear HC25
        clear c12b0 hcz27_0 hcz27_1 hcz27_2 hcz27_3 hcz27_4 hcz27_5 hfz27_0 hfz27_1 hfz27_2 hfz27_3 hfz27_4 hfz27_5
        obtain ⟨kq, x64_24, rfl, HA, HJ24, BK299, BK302, HB⟩ := hcut
        cases kq with
        | zero => exact absurd HA.out (by simp [spec_NodeOk.j2])
        | succ kj24 =>
         have H := HA.out
         clear HA
         simp only [spec_NodeOk.j2] at H
         by_cases c50 : x64_24 = true
         ·subst c50
          rw [if_pos rfl] at H
          obtain rfl := Option.some.inj H
          go_wp2
          repeat (go_quiet (fail); try go_wp2)
          go_ret
          exact ⟨Re_, Hf_ HB⟩
         ·replace c50 := Bool.eq_false_iff.mpr c50
          subst c50
          rw [if_neg Ff_] at H
          have HC51 := Aside0.mk H
          clear H
          go_upto_region 14 with (fail)
          repeat (go_quiet (fail); go_upto_region 14 with (fail))
          go_cut [8] (fun v8 wc => ∃ (kq : Nat) (x8_50 : Bool), v8 = .bool x8_50 ∧ Aside0 (spec_NodeOk.j3 kq x8_50 ((rd_T77 l0_0 a1).f0) ((rd_T77 l0_0 a1).f1) ((rd_T77 l0_0 a1).f2) ((rd_T77 l0_0 a1).f3) ((rd_T77 l0_0 a1).f4) ((rd_T77 l0_0 a1).f5) = some r) ∧ Aside0 (kq ≤ kj24) ∧ Aside0 (wc.heap[gb299]? = some (.cells #[(.slice (some ad301) l0_0.length c0_0), (.slice A0_1 l0_1.length c0_1), (.slice A0_2 l0_2.length c0_2)] 40 (0, 0))) ∧ Aside0 (wc.heap[gb302]? = some (.cells #[.int .i64 ((rd_T77 l0_0 a1).f0), .int .i64 ((rd_T77 l0_0 a1).f1), .string ((rd_T77 l0_0 a1).f2), .string ((rd_T77 l0_0 a1).f3), .string ((rd_T77 l0_0 a1).f4), (.slice A301_5 ((rd_T77 l0_0 a1).f5).length c301_5)] 77 (0, 0))) ∧ Aside0 (Below w.heap.size w wc))
          case first =>
           have H := HC51.out
           clear HC51
           by_cases c52 : ((rd_T77 l0_0 a1).f0) = 2
           ·rw [if_pos c52] at H
            have c52b0 := beq_iff_eq.mpr c52
            have c52b1 := bne_eq_false_iff_eq.mpr c52
            clear c52
            (first | rw [c52b0] | (simp only [i64_w, i32_w]; rw [c52b0]) | skip)
            have H' := Aside0.mk H
            clear H
            have hnb53 := NB302_299.out
            have hnc53 := NB299_302.out
            obtain ⟨hcz54_0, hcz54_1, hcz54_2, hcz54_3, hcz54_4, hcz54_5, hfz54_0, hfz54_1, hfz54_2, hfz54_3, hfz54_4, hfz54_5⟩ := Bc6_ BK302
            go_wp2
            repeat (go_quiet (fail); try go_wp2)
            go_meet
            case rel => exact ⟨_, (true), Rr_, H', ⟨by have := HK1.out; have := HJ24.out; first | omega | exact Nat.le_refl _⟩, ⟨Bq_ BK299⟩, ⟨Bq_ BK302⟩, ⟨Hf_ HB⟩⟩
           ·rw [if_neg c52] at H
            have c52b0 := beq_eq_false_iff_ne.mpr c52
            have c52b1 := bne_iff_ne.mpr c52
            (first | rw [c52b0] | (simp only [i64_w, i32_w]; rw [c52b0]) | skip)
            by_cases c55 : ((rd_T77 l0_0 a1).f0) = 11
            ·rw [if_pos c55] at H
             have c55b0 := beq_iff_eq.mpr c55
             have c55b1 := bne_eq_false_iff_eq.mpr c55
             clear c55
             have H' := Aside0.mk H
             clear H
             have hnb56 := NB302_299.out
             have hnc56 := NB299_302.out
             obtain ⟨hcz57_0, hcz57_1, hcz57_2, hcz57_3, hcz57_4, hcz57_5, hfz57_0, hfz57_1, hfz57_2, hfz57_3, hfz57_4, hfz57_5⟩ := Bc6_ BK302
             go_wp2
             repeat (go_quiet (fail); try go_wp2)
             go_meet
             case rel => exact ⟨_, (true), Rr_, H', ⟨by have := HK1.out; have := HJ24.out; first | omega | exact Nat.le_refl _⟩, ⟨Bq_ BK299⟩, ⟨Bq_ BK302⟩, ⟨Hf_ HB⟩⟩
            ·rw [if_neg c55] at H
             have c55b0 := beq_eq_false_iff_ne.mpr c55
             have c55b1 := bne_iff_ne.mpr c55
             by_cases c58 : ((rd_T77 l0_0 a1).f0) = 16
             ·rw [if_pos c58] at H
              have c58b0 := beq_iff_eq.mpr c58
              have c58b1 := bne_eq_false_iff_eq.mpr c58
              clear c58
              have H' := Aside0.mk H
              clear H
              have hnb59 := NB302_299.out
              have hnc59 := NB299_302.out
              obtain ⟨hcz60_0, hcz60_1, hcz60_2, hcz60_3, hcz60_4, hcz60_5, hfz60_0, hfz60_1, hfz60_2, hfz60_3, hfz60_4, hfz60_5⟩ := Bc6_ BK302
              go_wp2
              repeat (go_quiet (fail); try go_wp2)
              go_meet
              case rel => exact ⟨_, (true), Rr_, H', ⟨by have := HK1.out; have := HJ24.out; first | omega | exact Nat.le_refl _⟩, ⟨Bq_ BK299⟩, ⟨Bq_ BK302⟩, ⟨Hf_ HB⟩⟩
             ·rw [if_neg c58] at H
              have c58b0 := beq_eq_false_iff_ne.mpr c58
              have c58b1 := bne_iff_ne.mpr c58
              by_cases c61 : ((rd_T77 l0_0 a1).f0) = 17
              ·rw [if_pos c61] at H
               have c61b0 := beq_iff_eq.mpr c61
               have c61b1 := bne_eq_false_iff_eq.mpr c61
               clear c61
               have H' := Aside0.mk H
               clear H
               have hnb62 := NB302_299.out
               have hnc62 := NB299_302.out
               obtain ⟨hcz63_0, hcz63_1, hcz63_2, hcz63_3, hcz63_4, hcz63_5, hfz63_0, hfz63_1, hfz63_2, hfz63_3, hfz63_4, hfz63_5⟩ := Bc6_ BK302
               go_wp2
               repeat (go_quiet (fail); try go_wp2)
               go_meet
               case rel => exact ⟨_, (true), Rr_, H', ⟨by have := HK1.out; have := HJ24.out; first | omega | exact Nat.le_refl _⟩, ⟨Bq_ BK299⟩, ⟨Bq_ BK302⟩, ⟨Hf_ HB⟩⟩
              ·rw [if_neg c61] at H
               have c61b0 := beq_eq_false_iff_ne.mpr c61
               have c61b1 := bne_iff_ne.mpr c61
               by_cases c64 : ((rd_T77 l0_0 a1).f0) = 18
               ·rw [if_pos c64] at H
                have c64b0 := beq_iff_eq.mpr c64
                have c64b1 := bne_eq_false_iff_eq.mpr c64
                clear c64
                have H' := Aside0.mk H
                clear H
                have hnb65 := NB302_299.out
                have hnc65 := NB299_302.out
                obtain ⟨hcz66_0, hcz66_1, hcz66_2, hcz66_3, hcz66_4, hcz66_5, hfz66_0, hfz66_1, hfz66_2, hfz66_3, hfz66_4, hfz66_5⟩ := Bc6_ BK302
                go_wp2
                repeat (go_quiet (fail); try go_wp2)
                go_meet
                case rel => exact ⟨_, (true), Rr_, H', ⟨by have := HK1.out; have := HJ24.out; first | omega | exact Nat.le_refl _⟩, ⟨Bq_ BK299⟩, ⟨Bq_ BK302⟩, ⟨Hf_ HB⟩⟩
               ·rw [if_neg c64] at H
                have c64b0 := beq_eq_false_iff_ne.mpr c64
                have c64b1 := bne_iff_ne.mpr c64
                have H' := Aside0.mk H
                clear H
                have hnb67 := NB302_299.out
                have hnc67 := NB299_302.out
                obtain ⟨hcz68_0, hcz68_1, hcz68_2, hcz68_3, hcz68_4, hcz68_5, hfz68_0, hfz68_1, hfz68_2, hfz68_3, hfz68_4, hfz68_5⟩ := Bc6_ BK302
                go_wp2
                repeat (go_quiet (fail); try go_wp2)
                go_meet
                case rel => exact ⟨_, ((((rd_T77 l0_0 a1).f0) == 14)), Rr_, H', ⟨by have := HK1.out; have := HJ24.out; first | omega | exact Nat.le_refl _⟩, ⟨Bq_ BK299⟩, ⟨Bq_ BK302⟩, ⟨Hf_ HB⟩⟩
          case rest =>
           clear HC51
           obtain ⟨kq, x8_50, rfl, HA, HJ50, BK299, BK302, HB⟩ := hcut
           cases kq with
           | zero => exact absurd HA.out (by simp [spec_NodeOk.j3])
           | succ kj50 =>
            have H := HA.out
            clear HA
            simp only [spec_NodeOk.j3] at H
            have HC69 := Aside0.mk H
            clear H
            go_upto_region 15 with (fail)
            repeat (go_quiet (fail); go_upto_region 15 with (fail))
            go_cut [108] (fun v108 wc => ∃ (kq : Nat) (x108_68 : Bool), v108 = .bool x108_68 ∧ Aside0 (spec_NodeOk.j4 kq x108_68 ((rd_T77 l0_0 a1).f0) ((rd_T77 l0_0 a1).f1) ((rd_T77 l0_0 a1).f2) ((rd_T77 l0_0 a1).f3) ((rd_T77 l0_0 a1).f4) ((rd_T77 l0_0 a1).f5) = some r) ∧ Aside0 (kq ≤ kj50) ∧ Aside0 (wc.heap[gb299]? = some (.cells #[(.slice (some ad301) l0_0.length c0_0), (.slice A0_1 l0_1.length c0_1), (.slice A0_2 l0_2.length c0_2)] 40 (0, 0))) ∧ Aside0 (wc.heap[gb302]? = some (.cells #[.int .i64 ((rd_T77 l0_0 a1).f0), .int .i64 ((rd_T77 l0_0 a1).f1), .string ((rd_T77 l0_0 a1).f2), .string ((rd_T77 l0_0 a1).f3), .string ((rd_T77 l0_0 a1).f4), (.slice A301_5 ((rd_T77 l0_0 a1).f5).length c301_5)] 77 (0, 0))) ∧ Aside0 (Below w.heap.size w wc))
            case first =>
             have H := HC69.out
             clear HC69
             by_cases c70 : x8_50 = true
             ·subst c70
              rw [if_pos rfl] at H
              obtain ⟨t310, A71, H⟩ := Bo_ H
              by_cases c72 : t310 = true
              ·subst c72
               rw [if_pos rfl] at H
               have H' := Aside0.mk H
               clear H
               have hnb73 := NB302_299.out
               have hnc73 := NB299_302.out
               obtain ⟨hcz74_0, hcz74_1, hcz74_2, hcz74_3, hcz74_4, hcz74_5, hfz74_0, hfz74_1, hfz74_2, hfz74_3, hfz74_4, hfz74_5⟩ := Bc6_ BK302
               go_wp2_with (first | (go_at_call 77; (with_reducible refine (spec_NameOk.calls kj50 ((rd_T77 l0_0 a1).f2) true _ A71.out).mono ?_); rintro e w75 ⟨rfl, hb⟩; replace BK299 := Bb_ BK299 hb; replace BK302 := Bb_ BK302 hb; replace HB := Hs_ HB hb; clear hb))
               repeat (go_quiet (first | (go_at_call 77; (with_reducible refine (spec_NameOk.calls kj50 ((rd_T77 l0_0 a1).f2) true _ A71.out).mono ?_); rintro e w75 ⟨rfl, hb⟩; replace BK299 := Bb_ BK299 hb; replace BK302 := Bb_ BK302 hb; replace HB := Hs_ HB hb; clear hb)); try go_wp2_with (first | (go_at_call 77; (with_reducible refine (spec_NameOk.calls kj50 ((rd_T77 l0_0 a1).f2) true _ A71.out).mono ?_); rintro e w75 ⟨rfl, hb⟩; replace BK299 := Bb_ BK299 hb; replace BK302 := Bb_ BK302 hb; replace HB := Hs_ HB hb; clear hb)))
               go_meet
               case rel => exact ⟨_, (false), Rr_, H', ⟨by have := HK1.out; have := HJ24.out; have := HJ50.out; first | omega | exact Nat.le_refl _⟩, ⟨Bq_ BK299⟩, ⟨Bq_ BK302⟩, ⟨Hf_ HB⟩⟩
              ·replace c72 := Bool.eq_false_iff.mpr c72
               subst c72
               rw [if_neg Ff_] at H
               have H' := Aside0.mk H
               clear H
               have hnb76 := NB302_299.out
               have hnc76 := NB299_302.out
               obtain ⟨hcz77_0, hcz77_1, hcz77_2, hcz77_3, hcz77_4, hcz77_5, hfz77_0, hfz77_1, hfz77_2, hfz77_3, hfz77_4, hfz77_5⟩ := Bc6_ BK302
               go_wp2_with (first | (go_at_call 77; (with_reducible refine (spec_NameOk.calls kj50 ((rd_T77 l0_0 a1).f2) false _ A71.out).mono ?_); rintro e w78 ⟨rfl, hb⟩; replace BK299 := Bb_ BK299 hb; replace BK302 := Bb_ BK302 hb; replace HB := Hs_ HB hb; clear hb))
               repeat (go_quiet (first | (go_at_call 77; (with_reducible refine (spec_NameOk.calls kj50 ((rd_T77 l0_0 a1).f2) false _ A71.out).mono ?_); rintro e w78 ⟨rfl, hb⟩; replace BK299 := Bb_ BK299 hb; replace BK302 := Bb_ BK302 hb; replace HB := Hs_ HB hb; clear hb)); try go_wp2_with (first | (go_at_call 77; (with_reducible refine (spec_NameOk.calls kj50 ((rd_T77 l0_0 a1).f2) false _ A71.out).mono ?_); rintro e w78 ⟨rfl, hb⟩; replace BK299 := Bb_ BK299 hb; replace BK302 := Bb_ BK302 hb; replace HB := Hs_ HB hb; clear hb)))
               go_meet
               case rel => exact ⟨_, (true), Rr_, H', ⟨by have := HK1.out; have := HJ24.out; have := HJ50.out; first | omega | exact Nat.le_refl _⟩, ⟨Bq_ BK299⟩, ⟨Bq_ BK302⟩, ⟨Hf_ HB⟩⟩
             ·replace c70 := Bool.eq_false_iff.mpr c70
              subst c70
              rw [if_neg Ff_] at H
              have H' := Aside0.mk H
              clear H
              have hnb79 := NB302_299.out
              have hnc79 := NB299_302.out
              obtain ⟨hcz80_0, hcz80_1, hcz80_2, hcz80_3, hcz80_4, hcz80_5, hfz80_0, hfz80_1, hfz80_2, hfz80_3, hfz80_4, hfz80_5⟩ := Bc6_ BK302
              go_wp2
              repeat (go_quiet (fail); try go_wp2)
              go_meet
              case rel => exact ⟨_, ((((rd_T77 l0_0 a1).f2).toList != ([] : List UInt8))), Rr_, H', ⟨by have := HK1.out; have := HJ24.out; have := HJ50.out; first | omega | exact Nat.le_refl _⟩, ⟨Bq_ BK299⟩, ⟨Bq_ BK302⟩, ⟨Hf_ HB⟩⟩
            case rest =>
             clear HC69
             obtain ⟨kq, x108_68, rfl, HA, HJ68, BK299, BK302, HB⟩ := hcut
             cases kq with
             | zero => exact absurd HA.out (by simp [spec_NodeOk.j4])
             | succ kj68 =>
              have H := HA.out
              clear HA
              simp only [spec_NodeOk.j4] at H
              by_cases c81 : x108_68 = true
              ·subst c81
               rw [if_pos rfl] at H
               obtain rfl := Option.some.inj H
               go_wp2
               repeat (go_quiet (fail); try go_wp2)
               go_ret
               exact ⟨Re_, Hf_ HB⟩
              ·replace c81 := Bool.eq_false_iff.mpr c81
               subst c81
               rw [if_neg Ff_] at H
               have HC82 := Aside0.mk H
               clear H
               have hnb83 := NB302_299.out
               have hnc83 := NB299_302.out
               obtain ⟨hcz84_0, hcz84_1, hcz84_2, hcz84_3, hcz84_4, hcz84_5, hfz84_0, hfz84_1, hfz84_2, hfz84_3, hfz84_4, hfz84_5⟩ := Bc6_ BK302
               go_upto_if 111 with (fail)
               repeat (go_quiet (fail); go_upto_if 111 with (fail))
               go_cut [] (fun wc => ∃ (kq : Nat), Aside0 (spec_NodeOk.j5 kq ((rd_T77 l0_0 a1).f0) ((rd_T77 l0_0 a1).f1) ((rd_T77 l0_0 a1).f2) ((rd_T77 l0_0 a1).f3) ((rd_T77 l0_0 a1).f4) ((rd_T77 l0_0 a1).f5) = some r) ∧ Aside0 (kq ≤ kj68) ∧ Aside0 (wc.heap[gb299]? = some (.cells #[(.slice (some ad301) l0_0.length c0_0), (.slice A0_1 l0_1.length c0_1), (.slice A0_2 l0_2.length c0_2)] 40 (0, 0))) ∧ Aside0 (wc.heap[gb302]? = some (.cells #[.int .i64 ((rd_T77 l0_0 a1).f0), .int .i64 ((rd_T77 l0_0 a1).f1), .string ((rd_T77 l0_0 a1).f2), .string ((rd_T77 l0_0 a1).f3), .string ((rd_T77 l0_0 a1).f4), (.slice A301_5 ((rd_T77 l0_0 a1).f5).length c301_5)] 77 (0, 0))) ∧ Aside0 (Below w.heap.size w wc))
               case first =>
                have H := HC82.out
                clear HC82
                by_cases c85 : ((rd_T77 l0_0 a1).f0) = 14
                ·rw [if_pos c85] at H
                 have c85b0 := beq_iff_eq.mpr c85
                 have c85b1 := bne_eq_false_iff_eq.mpr c85
                 clear c85
                 (first | rw [c85b0] | (simp only [i64_w, i32_w]; rw [c85b0]) | skip)
                 obtain ⟨t311, A86, H⟩ := Bo_ H
                 by_cases c87 : t311 = true
                 ·subst c87
                  rw [if_pos rfl] at H
                  by_cases c88 : ((rd_T77 l0_0 a1).f4).toList = ([] : List UInt8)
                  ·rw [if_pos c88] at H
                   have c88b0 := beq_iff_eq.mpr c88
                   have c88b1 := bne_eq_false_iff_eq.mpr c88
                   clear c88
                   have H' := Aside0.mk H
                   clear H
                   have hnb89 := NB302_299.out
                   have hnc89 := NB299_302.out
                   obtain ⟨hcz90_0, hcz90_1, hcz90_2, hcz90_3, hcz90_4, hcz90_5, hfz90_0, hfz90_1, hfz90_2, hfz90_3, hfz90_4, hfz90_5⟩ := Bc6_ BK302
                   go_wp2_with (first | (go_at_call 77; (with_reducible refine (spec_NameOk.calls kj68 ((rd_T77 l0_0 a1).f3) true _ A86.out).mono ?_); rintro e w91 ⟨rfl, hb⟩; replace BK299 := Bb_ BK299 hb; replace BK302 := Bb_ BK302 hb; replace HB := Hs_ HB hb; clear hb; obtain ⟨hcz92_0, hcz92_1, hcz92_2, hcz92_3, hcz92_4, hcz92_5, hfz92_0, hfz92_1, hfz92_2, hfz92_3, hfz92_4, hfz92_5⟩ := Bc6_ BK302))
                   repeat (go_quiet (first | (go_at_call 77; (with_reducible refine (spec_NameOk.calls kj68 ((rd_T77 l0_0 a1).f3) true _ A86.out).mono ?_); rintro e w91 ⟨rfl, hb⟩; replace BK299 := Bb_ BK299 hb; replace BK302 := Bb_ BK302 hb; replace HB := Hs_ HB hb; clear hb; obtain ⟨hcz92_0, hcz92_1, hcz92_2, hcz92_3, hcz92_4, hcz92_5, hfz92_0, hfz92_1, hfz92_2, hfz92_3, hfz92_4, hfz92_5⟩ := Bc6_ BK302)); try go_wp2_with (first | (go_at_call 77; (with_reducible refine (spec_NameOk.calls kj68 ((rd_T77 l0_0 a1).f3) true _ A86.out).mono ?_); rintro e w91 ⟨rfl, hb⟩; replace BK299 := Bb_ BK299 hb; replace BK302 := Bb_ BK302 hb; replace HB := Hs_ HB hb; clear hb; obtain ⟨hcz92_0, hcz92_1, hcz92_2, hcz92_3, hcz92_4, hcz92_5, hfz92_0, hfz92_1, hfz92_2, hfz92_3, hfz92_4, hfz92_5⟩ := Bc6_ BK302)))
                   go_meet
                   case rel => exact ⟨_, H', ⟨by have := HK1.out; have := HJ24.out; have := HJ50.out; have := HJ68.out; first | omega | exact Nat.le_refl _⟩, ⟨Bq_ BK299⟩, ⟨Bq_ BK302⟩, ⟨Hf_ HB⟩⟩
                  ·rw [if_neg c88] at H
                   have c88b0 := beq_eq_false_iff_ne.mpr c88
                   have c88b1 := bne_iff_ne.mpr c88
                   obtain ⟨t312, A93, H⟩ := Bo_ H
                   by_cases c94 : t312 = true
                   ·subst c94
                    rw [if_pos rfl] at H
                    have H' := Aside0.mk H
                    clear H
                    have hnb95 := NB302_299.out
                    have hnc95 := NB299_302.out
                    obtain ⟨hcz96_0, hcz96_1, hcz96_2, hcz96_3, hcz96_4, hcz96_5, hfz96_0, hfz96_1, hfz96_2, hfz96_3, hfz96_4, hfz96_5⟩ := Bc6_ BK302
                    go_wp2_with (first | (go_at_call 77; (with_reducible refine (spec_NameOk.calls kj68 ((rd_T77 l0_0 a1).f3) true _ A86.out).mono ?_); rintro e w97 ⟨rfl, hb⟩; replace BK299 := Bb_ BK299 hb; replace BK302 := Bb_ BK302 hb; replace HB := Hs_ HB hb; clear hb; obtain ⟨hcz98_0, hcz98_1, hcz98_2, hcz98_3, hcz98_4, hcz98_5, hfz98_0, hfz98_1, hfz98_2, hfz98_3, hfz98_4, hfz98_5⟩ := Bc6_ BK302) | (go_at_call 77; (with_reducible refine (spec_NameOk.calls kj68 ((rd_T77 l0_0 a1).f4) true _ A93.out).mono ?_); rintro e w99 ⟨rfl, hb⟩; replace BK299 := Bb_ BK299 hb; replace BK302 := Bb_ BK302 hb; replace HB := Hs_ HB hb; clear hb))
                    repeat (go_quiet (first | (go_at_call 77; (with_reducible refine (spec_NameOk.calls kj68 ((rd_T77 l0_0 a1).f3) true _ A86.out).mono ?_); rintro e w97 ⟨rfl, hb⟩; replace BK299 := Bb_ BK299 hb; replace BK302 := Bb_ BK302 hb; replace HB := Hs_ HB hb; clear hb; obtain ⟨hcz98_0, hcz98_1, hcz98_2, hcz98_3, hcz98_4, hcz98_5, hfz98_0, hfz98_1, hfz98_2, hfz98_3, hfz98_4, hfz98_5⟩ := Bc6_ BK302) | (go_at_call 77; (with_reducible refine (spec_NameOk.calls kj68 ((rd_T77 l0_0 a1).f4) true _ A93.out).mono ?_); rintro e w99 ⟨rfl, hb⟩; replace BK299 := Bb_ BK299 hb; replace BK302 := Bb_ BK302 hb; replace HB := Hs_ HB hb; clear hb)); try go_wp2_with (first | (go_at_call 77; (with_reducible refine (spec_NameOk.calls kj68 ((rd_T77 l0_0 a1).f3) true _ A86.out).mono ?_); rintro e w97 ⟨rfl, hb⟩; replace BK299 := Bb_ BK299 hb; replace BK302 := Bb_ BK302 hb; replace HB := Hs_ HB hb; clear hb; obtain ⟨hcz98_0, hcz98_1, hcz98_2, hcz98_3, hcz98_4, hcz98_5, hfz98_0, hfz98_1, hfz98_2, hfz98_3, hfz98_4, hfz98_5⟩ := Bc6_ BK302) | (go_at_call 77; (with_reducible refine (spec_NameOk.calls kj68 ((rd_T77 l0_0 a1).f4) true _ A93.out).mono ?_); rintro e w99 ⟨rfl, hb⟩; replace BK299 := Bb_ BK299 hb; replace BK302 := Bb_ BK302 hb; replace HB := Hs_ HB hb; clear hb)))
                    go_meet
                    case rel => exact ⟨_, H', ⟨by have := HK1.out; have := HJ24.out; have := HJ50.out; have := HJ68.out; first | omega | exact Nat.le_refl _⟩, ⟨Bq_ BK299⟩, ⟨Bq_ BK302⟩, ⟨Hf_ HB⟩⟩
                   ·replace c94 := Bool.eq_false_iff.mpr c94
                    subst c94
                    rw [if_neg Ff_] at H
                    obtain rfl := Option.some.inj H
                    have hnb100 := NB302_299.out
                    have hnc100 := NB299_302.out
                    obtain ⟨hcz101_0, hcz101_1, hcz101_2, hcz101_3, hcz101_4, hcz101_5, hfz101_0, hfz101_1, hfz101_2, hfz101_3, hfz101_4, hfz101_5⟩ := Bc6_ BK302
                    go_wp2_with (first | (go_at_call 77; (with_reducible refine (spec_NameOk.calls kj68 ((rd_T77 l0_0 a1).f3) true _ A86.out).mono ?_); rintro e w102 ⟨rfl, hb⟩; replace BK299 := Bb_ BK299 hb; replace BK302 := Bb_ BK302 hb; replace HB := Hs_ HB hb; clear hb; obtain ⟨hcz103_0, hcz103_1, hcz103_2, hcz103_3, hcz103_4, hcz103_5, hfz103_0, hfz103_1, hfz103_2, hfz103_3, hfz103_4, hfz103_5⟩ := Bc6_ BK302) | (go_at_call 77; (with_reducible refine (spec_NameOk.calls kj68 ((rd_T77 l0_0 a1).f4) false _ A93.out).mono ?_); rintro e w104 ⟨rfl, hb⟩; replace BK299 := Bb_ BK299 hb; replace BK302 := Bb_ BK302 hb; replace HB := Hs_ HB hb; clear hb))
                    repeat (go_quiet (first | (go_at_call 77; (with_reducible refine (spec_NameOk.calls kj68 ((rd_T77 l0_0 a1).f3) true _ A86.out).mono ?_); rintro e w102 ⟨rfl, hb⟩; replace BK299 := Bb_ BK299 hb; replace BK302 := Bb_ BK302 hb; replace HB := Hs_ HB hb; clear hb; obtain ⟨hcz103_0, hcz103_1, hcz103_2, hcz103_3, hcz103_4, hcz103_5, hfz103_0, hfz103_1, hfz103_2, hfz103_3, hfz103_4, hfz103_5⟩ := Bc6_ BK302) | (go_at_call 77; (with_reducible refine (spec_NameOk.calls kj68 ((rd_T77 l0_0 a1).f4) false _ A93.out).mono ?_); rintro e w104 ⟨rfl, hb⟩; replace BK299 := Bb_ BK299 hb; replace BK302 := Bb_ BK302 hb; replace HB := Hs_ HB hb; clear hb)); try go_wp2_with (first | (go_at_call 77; (with_reducible refine (spec_NameOk.calls kj68 ((rd_T77 l0_0 a1).f3) true _ A86.out).mono ?_); rintro e w102 ⟨rfl, hb⟩; replace BK299 := Bb_ BK299 hb; replace BK302 := Bb_ BK302 hb; replace HB := Hs_ HB hb; clear hb; obtain ⟨hcz103_0, hcz103_1, hcz103_2, hcz103_3, hcz103_4, hcz103_5, hfz103_0, hfz103_1, hfz103_2, hfz103_3, hfz103_4, hfz103_5⟩ := Bc6_ BK302) | (go_at_call 77; (with_reducible refine (spec_NameOk.calls kj68 ((rd_T77 l0_0 a1).f4) false _ A93.out).mono ?_); rintro e w104 ⟨rfl, hb⟩; replace BK299 := Bb_ BK299 hb; replace BK302 := Bb_ BK302 hb; replace HB := Hs_ HB hb; clear hb)))
                    go_ret
                    exact ⟨Re_, Hf_ HB⟩
                 ·replace c87 := Bool.eq_false_iff.mpr c87
                  subst c87
                  rw [if_neg Ff_] at H
                  obtain rfl := Option.some.inj H
                  have hnb105 := NB302_299.out
                  have hnc105 := NB299_302.out
                  obtain ⟨hcz106_0, hcz106_1, hcz106_2, hcz106_3, hcz106_4, hcz106_5, hfz106_0, hfz106_1, hfz106_2, hfz106_3, hfz106_4, hfz106_5⟩ := Bc6_ BK302
                  go_wp2_with (first | (go_at_call 77; (with_reducible refine (spec_NameOk.calls kj68 ((rd_T77 l0_0 a1).f3) false _ A86.out).mono ?_); rintro e w107 ⟨rfl, hb⟩; replace BK299 := Bb_ BK299 hb; replace BK302 := Bb_ BK302 hb; replace HB := Hs_ HB hb; clear hb))
                  repeat (go_quiet (first | (go_at_call 77; (with_reducible refine (spec_NameOk.calls kj68 ((rd_T77 l0_0 a1).f3) false _ A86.out).mono ?_); rintro e w107 ⟨rfl, hb⟩; replace BK299 := Bb_ BK299 hb; replace BK302 := Bb_ BK302 hb; replace HB := Hs_ HB hb; clear hb)); try go_wp2_with (first | (go_at_call 77; (with_reducible refine (spec_NameOk.calls kj68 ((rd_T77 l0_0 a1).f3) false _ A86.out).mono ?_); rintro e w107 ⟨rfl, hb⟩; replace BK299 := Bb_ BK299 hb; replace BK302 := Bb_ BK302 hb; replace HB := Hs_ HB hb; clear hb)))
                  go_ret
                  exact ⟨Re_, Hf_ HB⟩
                ·rw [if_neg c85] at H
                 have c85b0 := beq_eq_false_iff_ne.mpr c85
                 have c85b1 := bne_iff_ne.mpr c85
                 (first | rw [c85b0] | (simp only [i64_w, i32_w]; rw [c85b0]) | skip)
                 by_cases c108 : ((rd_T77 l0_0 a1).f3).toList = ([] : List UInt8)
                 ·rw [if_pos c108] at H
                  have c108b0 := beq_iff_eq.mpr c108
                  have c108b1 := bne_eq_false_iff_eq.mpr c108
                  clear c108
                  by_cases c109 : ((rd_T77 l0_0 a1).f4).toList = ([] : List UInt8)
                  ·rw [if_pos c109] at H
                   have c109b0 := beq_iff_eq.mpr c109
                   have c109b1 := bne_eq_false_iff_eq.mpr c109
                   clear c109
                   have H' := Aside0.mk H
                   clear H
                   have hnb110 := NB302_299.out
                   have hnc110 := NB299_302.out
                   obtain ⟨hcz111_0, hcz111_1, hcz111_2, hcz111_3, hcz111_4, hcz111_5, hfz111_0, hfz111_1, hfz111_2, hfz111_3, hfz111_4, hfz111_5⟩ := Bc6_ BK302
                   go_wp2
                   repeat (go_quiet (fail); try go_wp2)
                   go_meet
                   case rel => exact ⟨_, H', ⟨by have := HK1.out; have := HJ24.out; have := HJ50.out; have := HJ68.out; first | omega | exact Nat.le_refl _⟩, ⟨Bq_ BK299⟩, ⟨Bq_ BK302⟩, ⟨Hf_ HB⟩⟩
                  ·rw [if_neg c109] at H
                   have c109b0 := beq_eq_false_iff_ne.mpr c109
                   have c109b1 := bne_iff_ne.mpr c109
                   obtain rfl := Option.some.inj H
                   have hnb112 := NB302_299.out
                   have hnc112 := NB299_302.out
                   obtain ⟨hcz113_0, hcz113_1, hcz113_2, hcz113_3, hcz113_4, hcz113_5, hfz113_0, hfz113_1, hfz113_2, hfz113_3, hfz113_4, hfz113_5⟩ := Bc6_ BK302
                   go_wp2
                   repeat (go_quiet (fail); try go_wp2)
                   go_ret
                   exact ⟨Re_, Hf_ HB⟩
                 ·rw [if_neg c108] at H
                  have c108b0 := beq_eq_false_iff_ne.mpr c108
                  have c108b1 := bne_iff_ne.mpr c108
                  obtain rfl := Option.some.inj H
                  have hnb114 := NB302_299.out
                  have hnc114 := NB299_302.out
                  obtain ⟨hcz115_0, hcz115_1, hcz115_2, hcz115_3, hcz115_4, hcz115_5, hfz115_0, hfz115_1, hfz115_2, hfz115_3, hfz115_4, hfz115_5⟩ := Bc6_ BK302
                  go_wp2
                  repeat (go_quiet (fail); try go_wp2)
                  go_ret
                  exact ⟨Re_, Hf_ HB⟩
               case rest =>
                clear HC82
                clear hcz84_0 hcz84_1 hcz84_2 hcz84_3 hcz84_4 hcz84_5 hfz84_0 hfz84_1 hfz84_2 hfz84_3 hfz84_4 hfz84_5
                obtain ⟨kq, HA, HJ81, BK299, BK302, HB⟩ := hcut
                cases kq with
                | zero => exact absurd HA.out (by simp [spec_NodeOk.j5])
                | succ kj81 =>
                 have H := HA.out
                 clear HA
                 simp only [spec_NodeOk.j5] at H
                 by_cases c116 : ((rd_T77 l0_0 a1).f0) = 1
                 ·rw [if_pos c116] at H
                  have c116b0 := beq_iff_eq.mpr c116
                  have c116b1 := bne_eq_false_iff_eq.mpr c116
                  clear c116
                  obtain ⟨t313, A117, H⟩ := Bo_ H
                  obtain rfl := Option.some.inj H
                  have hnb118 := NB302_299.out
                  have hnc118 := NB299_302.out
                  obtain ⟨hcz119_0, hcz119_1, hcz119_2, hcz119_3, hcz119_4, hcz119_5, hfz119_0, hfz119_1, hfz119_2, hfz119_3, hfz119_4, hfz119_5⟩ := Bc6_ BK302
                  go_wp2_with (first | (go_at_call 73; (with_reducible refine (spec_l01In.calls ((rd_T77 l0_0 a1).f1) 0 1000000 t313 _ A117.out).mono ?_); rintro e w' ⟨rfl, ⟨nd, rfl⟩⟩; (try first | exact ⟨rfl, _, World.drewN_drewN _ _ _⟩ | exact ⟨rfl, _, Eq.trans (World.drewN_drewN _ _ _) (congrArg (World.drewN _) (Nat.add_assoc _ _ _))⟩)))
                  repeat (go_quiet (first | (go_at_call 73; (with_reducible refine (spec_l01In.calls ((rd_T77 l0_0 a1).f1) 0 1000000 t313 _ A117.out).mono ?_); rintro e w' ⟨rfl, ⟨nd, rfl⟩⟩; (try first | exact ⟨rfl, _, World.drewN_drewN _ _ _⟩ | exact ⟨rfl, _, Eq.trans (World.drewN_drewN _ _ _) (congrArg (World.drewN _) (Nat.add_assoc _ _ _))⟩))); try go_wp2_with (first | (go_at_call 73; (with_reducible refine (spec_l01In.calls ((rd_T77 l0_0 a1).f1) 0 1000000 t313 _ A117.out).mono ?_); rintro e w' ⟨rfl, ⟨nd, rfl⟩⟩; (try first | exact ⟨rfl, _, World.drewN_drewN _ _ _⟩ | exact ⟨rfl, _, Eq.trans (World.drewN_drewN _ _ _) (congrArg (World.drewN _) (Nat.add_assoc _ _ _))⟩))))
                  go_ret
                  exact ⟨Re_, Hf_ HB⟩
                 ·rw [if_neg c116] at H
                  have c116b0 := beq_eq_false_iff_ne.mpr c116
                  have c116b1 := bne_iff_ne.mpr c116
                  by_cases c120 : ((rd_T77 l0_0 a1).f0) = 3
                  ·rw [if_pos c120] at H
                   have c120b0 := beq_iff_eq.mpr c120
                   have c120b1 := bne_eq_false_iff_eq.mpr c120
                   clear c120
                   obtain ⟨t314, A121, H⟩ := Bo_ H
                   obtain rfl := Option.some.inj H
                   have hnb122 := NB302_299.out
                   have hnc122 := NB299_302.out
                   obtain ⟨hcz123_0, hcz123_1, hcz123_2, hcz123_3, hcz123_4, hcz123_5, hfz123_0, hfz123_1, hfz123_2, hfz123_3, hfz123_4, hfz123_5⟩ := Bc6_ BK302
                   go_wp2_with (first | (go_at_call 73; (with_reducible refine (spec_l01In.calls ((rd_T77 l0_0 a1).f1) 1 9 t314 _ A121.out).mono ?_); rintro e w' ⟨rfl, ⟨nd, rfl⟩⟩; (try first | exact ⟨rfl, _, World.drewN_drewN _ _ _⟩ | exact ⟨rfl, _, Eq.trans (World.drewN_drewN _ _ _) (congrArg (World.drewN _) (Nat.add_assoc _ _ _))⟩)))
                   repeat (go_quiet (first | (go_at_call 73; (with_reducible refine (spec_l01In.calls ((rd_T77 l0_0 a1).f1) 1 9 t314 _ A121.out).mono ?_); rintro e w' ⟨rfl, ⟨nd, rfl⟩⟩; (try first | exact ⟨rfl, _, World.drewN_drewN _ _ _⟩ | exact ⟨rfl, _, Eq.trans (World.drewN_drewN _ _ _) (congrArg (World.drewN _) (Nat.add_assoc _ _ _))⟩))); try go_wp2_with (first | (go_at_call 73; (with_reducible refine (spec_l01In.calls ((rd_T77 l0_0 a1).f1) 1 9 t314 _ A121.out).mono ?_); rintro e w' ⟨rfl, ⟨nd, rfl⟩⟩; (try first | exact ⟨rfl, _, World.drewN_drewN _ _ _⟩ | exact ⟨rfl, _, Eq.trans (World.drewN_drewN _ _ _) (congrArg (World.drewN _) (Nat.add_assoc _ _ _))⟩))))
                   go_ret
                   exact ⟨Re_, Hf_ HB⟩
                  ·rw [if_neg c120] at H
                   have c120b0 := beq_eq_false_iff_ne.mpr c120
                   have c120b1 := bne_iff_ne.mpr c120
                   obtain rfl := Option.some.inj H
                   have hnb124 := NB302_299.out
                   have hnc124 := NB299_302.out
                   obtain ⟨hcz125_0, hcz125_1, hcz125_2, hcz125_3, hcz125_4, hcz125_5, hfz125_0, hfz125_1, hfz125_2, hfz125_3, hfz125_4, hfz125_5⟩ := Bc6_ BK302
                   go_wp2
                   repeat (go_quiet (fail); try go_wp2)
                   go_ret
                   exact ⟨Re_, Hf_ HB⟩
   ·rw [if_neg c6] at H
    exact absurd H (by simp)
  ·rw [if_neg c5] at H
   exact absurd H (by simp)
 ·replace c4 := Bool.eq_false_iff.mpr c4
  subst c4
  rw [if_neg Ff_] at H
  obtain rfl := Option.some.inj H
  go_enter Try.func35, Try.ntmps35
  go_wp2_with (first | (refine Bv_ 2 #[.slice A0_0 l0_0.length c0_0, .slice A0_1 l0_1.length c0_1, .slice A0_2 l0_2.length c0_2] 40 ?_; intro gb299 hg w126 BK299 hb; have GW299 := Hg_ HB hg; replace HB := Hs_ HB hb; clear hb hg; obtain ⟨hcz127_0, hcz127_1, hcz127_2, hfz127_0, hfz127_1, hfz127_2⟩ := Bc3_ BK299) | (go_at_call 73; (with_reducible refine (spec_l01In.calls a1 0 (wrap64 ((l0_0.length : Int) - 1)) false _ A3.out).mono ?_); rintro e w' ⟨rfl, ⟨nd, rfl⟩⟩; (try first | exact ⟨rfl, _, World.drewN_drewN _ _ _⟩ | exact ⟨rfl, _, Eq.trans (World.drewN_drewN _ _ _) (congrArg (World.drewN _) (Nat.add_assoc _ _ _))⟩)))
  repeat (go_quiet (first | (refine Bv_ 2 #[.slice A0_0 l0_0.length c0_0, .slice A0_1 l0_1.length c0_1, .slice A0_2 l0_2.length c0_2] 40 ?_; intro gb299 hg w126 BK299 hb; have GW299 := Hg_ HB hg; replace HB := Hs_ HB hb; clear hb hg; obtain ⟨hcz127_0, hcz127_1, hcz127_2, hfz127_0, hfz127_1, hfz127_2⟩ := Bc3_ BK299) | (go_at_call 73; (with_reducible refine (spec_l01In.calls a1 0 (wrap64 ((l0_0.length : Int) - 1)) false _ A3.out).mono ?_); rintro e w' ⟨rfl, ⟨nd, rfl⟩⟩; (try first | exact ⟨rfl, _, World.drewN_drewN _ _ _⟩ | exact ⟨rfl, _, Eq.trans (World.drewN_drewN _ _ _) (congrArg (World.drewN _) (Nat.add_assoc _ _ _))⟩))); try go_wp2_with (first | (refine Bv_ 2 #[.slice A0_0 l0_0.length c0_0, .slice A0_1 l0_1.length c0_1, .slice A0_2 l0_2.length c0_2] 40 ?_; intro gb299 hg w126 BK299 hb; have GW299 := Hg_ HB hg; replace HB := Hs_ HB hb; clear hb hg; obtain ⟨hcz127_0, hcz127_1, hcz127_2, hfz127_0, hfz127_1, hfz127_2⟩ := Bc3_ BK299) | (go_at_call 73; (with_reducible refine (spec_l01In.calls a1 0 (wrap64 ((l0_0.length : Int) - 1)) false _ A3.out).mono ?_); rintro e w' ⟨rfl, ⟨nd, rfl⟩⟩; (try first | exact ⟨rfl, _, World.drewN_drewN _ _ _⟩ | exact ⟨rfl, _, Eq.trans (World.drewN_drewN _ _ _) (congrArg (World.drewN _) (Nat.add_assoc _ _ _))⟩))))
  go_ret
  exact ⟨Re_, Hf_ HB⟩

end Go.Proofs.Ytmbkcbgbienjoaa.PFnExactValueOf
