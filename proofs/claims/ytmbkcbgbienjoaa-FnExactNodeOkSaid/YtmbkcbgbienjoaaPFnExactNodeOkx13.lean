/- The machine side of the law FnExactNodeOk: for each function that it reaches, a Lean function and its contract. Written by a program of this session's over the kit's print. No condition. -/
import Derived.Test.YtmbkcbgbienjoaaCmp
import Derived.Test.YtmbkcbgbienjoaaPFnExactNodeOkx0
import Derived.Test.YtmbkcbgbienjoaaPFnExactNodeOkx12
namespace Go.Proofs.Ytmbkcbgbienjoaa.PFnExactNodeOk
open Go.RowKit Go.Proofs.YtmbkcbgbienjoaaW.PrintWords Go.Proofs.YtmbkcbgbienjoaaW.PrintLast Go.Proofs.YtmbkcbgbienjoaaW.PrintMore Go.Proofs.Ytmbkcbgbienjoaa.Cmp
attribute [local go_sem] max2_int min2_int max_two min_two max_three min_three max_four min_four   -- for this text's walks alone
set_option linter.unusedVariables false
set_option linter.unusedSimpArgs false

/-! ### impl_kidsOk: function 81 -/
mutual
def impl_kidsOk.j2 : Nat → Int → Int → List (S77) → List (S106) → List (S103) → Int → Int → ByteArray → ByteArray → ByteArray → List Int → Option (Bool)
 | 0, _, _, _, _, _, _, _, _, _, _, _ => none
 | k + 1, x5, x6, x328000, x328001, x328002, x329000, x329001, x329002, x329003, x329004, x329005 => if (x329005.length : Int) = (wrap64 (x5 + x6)) then (impl_kidsOk.l1 k x5 x329005 (x329005.length : Int) 0 x328000 x328001 x328002) else (some false)
def impl_kidsOk.l1 : Nat → Int → List Int → Int → Int → List (S77) → List (S106) → List (S103) → Option (Bool)
 | 0, _, _, _, _, _, _, _ => none
 | k + 1, x5, x58, x59, x60, x328000, x328001, x328002 => if x60 < x59 then (if 0 ≤ x60 then (if x60 < (x58.length : Int) then (if x60 < x5 then ((impl_isValue.f x328000 x328001 x328002 (rd x58 x60)).bind fun t334 => (if t334 = true then (if x60 ≥ x5 then ((impl_isBlock.f x328000 x328001 x328002 (rd x58 x60)).bind fun t335 => (if t335 = true then (impl_kidsOk.l1 k x5 x58 x59 (wrap64 (x60 + 1)) x328000 x328001 x328002) else (some false))) else (impl_kidsOk.l1 k x5 x58 x59 (wrap64 (x60 + 1)) x328000 x328001 x328002)) else (some false))) else (if x60 ≥ x5 then ((impl_isBlock.f x328000 x328001 x328002 (rd x58 x60)).bind fun t336 => (if t336 = true then (impl_kidsOk.l1 k x5 x58 x59 (wrap64 (x60 + 1)) x328000 x328001 x328002) else (some false))) else (impl_kidsOk.l1 k x5 x58 x59 (wrap64 (x60 + 1)) x328000 x328001 x328002))) else (none)) else (none)) else (some true)
def impl_kidsOk.j0 : Nat → Int → Int → Int → Bool → List (S77) → List (S106) → List (S103) → Int → Int → ByteArray → ByteArray → ByteArray → List Int → Option (Bool)
 | 0, _, _, _, _, _, _, _, _, _, _, _, _, _ => none
 | k + 1, x5, x6, x12, x15, x328000, x328001, x328002, x329000, x329001, x329002, x329003, x329004, x329005 => if x15 = true then (impl_kidsOk.j2 k 1 x6 x328000 x328001 x328002 x329000 x329001 x329002 x329003 x329004 x329005) else (if x12 = 12 then ((impl_within.f (wrap64 ((x329005.length : Int) - 1)) 1 2).bind fun t329 => (if t329 = true then (impl_kidsOk.j2 k 1 (wrap64 ((x329005.length : Int) - 1)) x328000 x328001 x328002 x329000 x329001 x329002 x329003 x329004 x329005) else (some false))) else (if x12 = 13 then (impl_kidsOk.j2 k 1 1 x328000 x328001 x328002 x329000 x329001 x329002 x329003 x329004 x329005) else (if x12 = 20 then (impl_kidsOk.l0 k x329005 (x329005.length : Int) 0 x328000 x328001 x328002 x329000 x329001 x329002 x329003 x329004 x329005) else (impl_kidsOk.j2 k x5 x6 x328000 x328001 x328002 x329000 x329001 x329002 x329003 x329004 x329005))))
def impl_kidsOk.l0 : Nat → List Int → Int → Int → List (S77) → List (S106) → List (S103) → Int → Int → ByteArray → ByteArray → ByteArray → List Int → Option (Bool)
 | 0, _, _, _, _, _, _, _, _, _, _, _, _ => none
 | k + 1, x35, x36, x37, x328000, x328001, x328002, x329000, x329001, x329002, x329003, x329004, x329005 => if x37 < x36 then (if 0 ≤ x37 then (if x37 < (x35.length : Int) then ((impl_isStatement.f x328000 x328001 x328002 (rd x35 x37)).bind fun t331 => (if t331 = true then (impl_kidsOk.l0 k x35 x36 (wrap64 (x37 + 1)) x328000 x328001 x328002 x329000 x329001 x329002 x329003 x329004 x329005) else (some false))) else (none)) else (none)) else ((impl_within.f (x329005.length : Int) 1 12).bind fun t332 => (some t332))
end
def impl_kidsOk.f (k : Nat) (l0_0 : List (S77)) (l0_1 : List (S106)) (l0_2 : List (S103)) (a1_0 : Int) (a1_1 : Int) (a1_2 : ByteArray) (a1_3 : ByteArray) (a1_4 : ByteArray) (l1_5 : List Int) : Option (Bool) := if a1_0 = 3 then (impl_kidsOk.j2 k 2 0 l0_0 l0_1 l0_2 a1_0 a1_1 a1_2 a1_3 a1_4 l1_5) else (if a1_0 = 4 then (impl_kidsOk.j0 k 0 0 a1_0 (a1_0 == 4) l0_0 l0_1 l0_2 a1_0 a1_1 a1_2 a1_3 a1_4 l1_5) else (if a1_0 = 5 then (impl_kidsOk.j0 k 0 0 a1_0 (a1_0 == 5) l0_0 l0_1 l0_2 a1_0 a1_1 a1_2 a1_3 a1_4 l1_5) else (if a1_0 = 11 then (impl_kidsOk.j0 k 0 0 a1_0 (a1_0 == 11) l0_0 l0_1 l0_2 a1_0 a1_1 a1_2 a1_3 a1_4 l1_5) else (if a1_0 = 14 then (impl_kidsOk.j0 k 0 0 a1_0 (a1_0 == 14) l0_0 l0_1 l0_2 a1_0 a1_1 a1_2 a1_3 a1_4 l1_5) else (impl_kidsOk.j0 k 0 0 a1_0 (a1_0 == 15) l0_0 l0_1 l0_2 a1_0 a1_1 a1_2 a1_3 a1_4 l1_5)))))
theorem impl_kidsOk.mono_l : ∀ k, (∀ y0 y1 y2 y3 y4 y5 y6 y7 y8 y9 y10, LeO (impl_kidsOk.j2 k y0 y1 y2 y3 y4 y5 y6 y7 y8 y9 y10) (impl_kidsOk.j2 (k + 1) y0 y1 y2 y3 y4 y5 y6 y7 y8 y9 y10)) ∧ (∀ y0 y1 y2 y3 y4 y5 y6, LeO (impl_kidsOk.l1 k y0 y1 y2 y3 y4 y5 y6) (impl_kidsOk.l1 (k + 1) y0 y1 y2 y3 y4 y5 y6)) ∧ (∀ y0 y1 y2 y3 y4 y5 y6 y7 y8 y9 y10 y11 y12, LeO (impl_kidsOk.j0 k y0 y1 y2 y3 y4 y5 y6 y7 y8 y9 y10 y11 y12) (impl_kidsOk.j0 (k + 1) y0 y1 y2 y3 y4 y5 y6 y7 y8 y9 y10 y11 y12)) ∧ (∀ y0 y1 y2 y3 y4 y5 y6 y7 y8 y9 y10 y11, LeO (impl_kidsOk.l0 k y0 y1 y2 y3 y4 y5 y6 y7 y8 y9 y10 y11) (impl_kidsOk.l0 (k + 1) y0 y1 y2 y3 y4 y5 y6 y7 y8 y9 y10 y11))
 | 0 => ⟨fun _ _ _ _ _ _ _ _ _ _ _ r h => by simp [impl_kidsOk.j2] at h, fun _ _ _ _ _ _ _ r h => by simp [impl_kidsOk.l1] at h, fun _ _ _ _ _ _ _ _ _ _ _ _ _ r h => by simp [impl_kidsOk.j0] at h, fun _ _ _ _ _ _ _ _ _ _ _ _ r h => by simp [impl_kidsOk.l0] at h⟩
 | k + 1 => by
  obtain ⟨ih0, ih1, ih2, ih3⟩ := impl_kidsOk.mono_l k
  refine ⟨?_, ?_, ?_, ?_⟩
  ·intro y0 y1 y2 y3 y4 y5 y6 y7 y8 y9 y10
   unfold impl_kidsOk.j2
   repeat' first
   | (with_reducible exact ih0 _ _ _ _ _ _ _ _ _ _ _)
   | (with_reducible exact ih1 _ _ _ _ _ _ _)
   | (with_reducible exact ih2 _ _ _ _ _ _ _ _ _ _ _ _ _)
   | (with_reducible exact ih3 _ _ _ _ _ _ _ _ _ _ _ _)
   | (with_reducible exact LeO.refl _)
   | (with_reducible exact LeO.none _)
   | (with_reducible refine LeO.ite ?_ ?_)
   | (with_reducible refine LeO.bind ?_ (fun _ => ?_))
   | exact ih0 _ _ _ _ _ _ _ _ _ _ _
   | exact ih1 _ _ _ _ _ _ _
   | exact ih2 _ _ _ _ _ _ _ _ _ _ _ _ _
   | exact ih3 _ _ _ _ _ _ _ _ _ _ _ _
   | exact LeO.none _
   | refine LeO.ite ?_ ?_
   | refine LeO.bind ?_ (fun _ => ?_)
  ·intro y0 y1 y2 y3 y4 y5 y6
   unfold impl_kidsOk.l1
   repeat' first
   | (with_reducible exact ih0 _ _ _ _ _ _ _ _ _ _ _)
   | (with_reducible exact ih1 _ _ _ _ _ _ _)
   | (with_reducible exact ih2 _ _ _ _ _ _ _ _ _ _ _ _ _)
   | (with_reducible exact ih3 _ _ _ _ _ _ _ _ _ _ _ _)
   | (with_reducible exact LeO.refl _)
   | (with_reducible exact LeO.none _)
   | (with_reducible refine LeO.ite ?_ ?_)
   | (with_reducible refine LeO.bind ?_ (fun _ => ?_))
   | exact ih0 _ _ _ _ _ _ _ _ _ _ _
   | exact ih1 _ _ _ _ _ _ _
   | exact ih2 _ _ _ _ _ _ _ _ _ _ _ _ _
   | exact ih3 _ _ _ _ _ _ _ _ _ _ _ _
   | exact LeO.none _
   | refine LeO.ite ?_ ?_
   | refine LeO.bind ?_ (fun _ => ?_)
  ·intro y0 y1 y2 y3 y4 y5 y6 y7 y8 y9 y10 y11 y12
   unfold impl_kidsOk.j0
   repeat' first
   | (with_reducible exact ih0 _ _ _ _ _ _ _ _ _ _ _)
   | (with_reducible exact ih1 _ _ _ _ _ _ _)
   | (with_reducible exact ih2 _ _ _ _ _ _ _ _ _ _ _ _ _)
   | (with_reducible exact ih3 _ _ _ _ _ _ _ _ _ _ _ _)
   | (with_reducible exact LeO.refl _)
   | (with_reducible exact LeO.none _)
   | (with_reducible refine LeO.ite ?_ ?_)
   | (with_reducible refine LeO.bind ?_ (fun _ => ?_))
   | exact ih0 _ _ _ _ _ _ _ _ _ _ _
   | exact ih1 _ _ _ _ _ _ _
   | exact ih2 _ _ _ _ _ _ _ _ _ _ _ _ _
   | exact ih3 _ _ _ _ _ _ _ _ _ _ _ _
   | exact LeO.none _
   | refine LeO.ite ?_ ?_
   | refine LeO.bind ?_ (fun _ => ?_)
  ·intro y0 y1 y2 y3 y4 y5 y6 y7 y8 y9 y10 y11
   unfold impl_kidsOk.l0
   repeat' first
   | (with_reducible exact ih0 _ _ _ _ _ _ _ _ _ _ _)
   | (with_reducible exact ih1 _ _ _ _ _ _ _)
   | (with_reducible exact ih2 _ _ _ _ _ _ _ _ _ _ _ _ _)
   | (with_reducible exact ih3 _ _ _ _ _ _ _ _ _ _ _ _)
   | (with_reducible exact LeO.refl _)
   | (with_reducible exact LeO.none _)
   | (with_reducible refine LeO.ite ?_ ?_)
   | (with_reducible refine LeO.bind ?_ (fun _ => ?_))
   | exact ih0 _ _ _ _ _ _ _ _ _ _ _
   | exact ih1 _ _ _ _ _ _ _
   | exact ih2 _ _ _ _ _ _ _ _ _ _ _ _ _
   | exact ih3 _ _ _ _ _ _ _ _ _ _ _ _
   | exact LeO.none _
   | refine LeO.ite ?_ ?_
   | refine LeO.bind ?_ (fun _ => ?_)
theorem impl_kidsOk.mono : ∀ a0 a1 a2 a3 a4 a5 a6 a7 a8 k, LeO (impl_kidsOk.f k a0 a1 a2 a3 a4 a5 a6 a7 a8) (impl_kidsOk.f (k + 1) a0 a1 a2 a3 a4 a5 a6 a7 a8) := by
 intro a0 a1 a2 a3 a4 a5 a6 a7 a8 k
 obtain ⟨ih0, ih1, ih2, ih3⟩ := impl_kidsOk.mono_l k
 unfold impl_kidsOk.f
 repeat' first
   | (with_reducible exact ih0 _ _ _ _ _ _ _ _ _ _ _)
   | (with_reducible exact ih1 _ _ _ _ _ _ _)
   | (with_reducible exact ih2 _ _ _ _ _ _ _ _ _ _ _ _ _)
   | (with_reducible exact ih3 _ _ _ _ _ _ _ _ _ _ _ _)
   | (with_reducible exact LeO.refl _)
   | (with_reducible exact LeO.none _)
   | (with_reducible refine LeO.ite ?_ ?_)
   | (with_reducible refine LeO.bind ?_ (fun _ => ?_))
   | exact ih0 _ _ _ _ _ _ _ _ _ _ _
   | exact ih1 _ _ _ _ _ _ _
   | exact ih2 _ _ _ _ _ _ _ _ _ _ _ _ _
   | exact ih3 _ _ _ _ _ _ _ _ _ _ _ _
   | exact LeO.none _
   | refine LeO.ite ?_ ?_
   | refine LeO.bind ?_ (fun _ => ?_)
set_option maxHeartbeats 8000000 in
set_option maxRecDepth 100000 in
theorem impl_kidsOk.calls (k : Nat) (A0_0 : Option Addr) (c0_0 : Nat) (l0_0 : List (S77)) (A0_1 : Option Addr) (c0_1 : Nat) (l0_1 : List (S106)) (A0_2 : Option Addr) (c0_2 : Nat) (l0_2 : List (S103)) (a1_0 : Int) (a1_1 : Int) (a1_2 : ByteArray) (a1_3 : ByteArray) (a1_4 : ByteArray) (A1_5 : Option Addr) (c1_5 : Nat) (l1_5 : List Int) (r : Bool) (w : World) (hr0_0 : Kd.C k77 w A0_0 l0_0.length l0_0) (hc0_0 : l0_0.length ≤ c0_0) (hr0_1 : Kd.C k106 w A0_1 l0_1.length l0_1) (hc0_1 : l0_1.length ≤ c0_1) (hr0_2 : Kd.C k103 w A0_2 l0_2.length l0_2) (hc0_2 : l0_2.length ≤ c0_2) (hr1_5 : Kd.C (Kd.int .i64) w A1_5 l1_5.length l1_5) (hc1_5 : l1_5.length ≤ c1_5) (h : impl_kidsOk.f k l0_0 l0_1 l0_2 a1_0 a1_1 a1_2 a1_3 a1_4 l1_5 = some r) :
  Calls Try.prog 81 #[.agg #[.slice A0_0 l0_0.length c0_0, .slice A0_1 l0_1.length c0_1, .slice A0_2 l0_2.length c0_2], .agg #[.int .i64 a1_0, .int .i64 a1_1, .string a1_2, .string a1_3, .string a1_4, .slice A1_5 l1_5.length c1_5]] w fun e w' => e = .returned (.bool r) ∧ Below w.heap.size w w' := by
 have hu40 := Try.underlying40
 have hu77 := Try.underlying77
 have HR0_0 := Aside0.mk hr0_0
 have HC0_0 := Aside0.mk hc0_0
 clear hr0_0 hc0_0
 have HR0_1 := Aside0.mk hr0_1
 have HC0_1 := Aside0.mk hc0_1
 clear hr0_1 hc0_1
 have HR0_2 := Aside0.mk hr0_2
 have HC0_2 := Aside0.mk hc0_2
 clear hr0_2 hc0_2
 have HR1_5 := Aside0.mk hr1_5
 have HC1_5 := Aside0.mk hc1_5
 clear hr1_5 hc1_5
 have HB := Aside0.mk (Below.refl w.heap.size w)
 have H : (if a1_0 = 3 then (impl_kidsOk.j2 k 2 0 l0_0 l0_1 l0_2 a1_0 a1_1 a1_2 a1_3 a1_4 l1_5) else (if a1_0 = 4 then (impl_kidsOk.j0 k 0 0 a1_0 (a1_0 == 4) l0_0 l0_1 l0_2 a1_0 a1_1 a1_2 a1_3 a1_4 l1_5) else (if a1_0 = 5 then (impl_kidsOk.j0 k 0 0 a1_0 (a1_0 == 5) l0_0 l0_1 l0_2 a1_0 a1_1 a1_2 a1_3 a1_4 l1_5) else (if a1_0 = 11 then (impl_kidsOk.j0 k 0 0 a1_0 (a1_0 == 11) l0_0 l0_1 l0_2 a1_0 a1_1 a1_2 a1_3 a1_4 l1_5) else (if a1_0 = 14 then (impl_kidsOk.j0 k 0 0 a1_0 (a1_0 == 14) l0_0 l0_1 l0_2 a1_0 a1_1 a1_2 a1_3 a1_4 l1_5) else (impl_kidsOk.j0 k 0 0 a1_0 (a1_0 == 15) l0_0 l0_1 l0_2 a1_0 a1_1 a1_2 a1_3 a1_4 l1_5)))))) = some r := h
 clear h
 have HC3 := Aside0.mk H
 clear H
 go_enter Try.func81, Try.ntmps81
 go_upto_block 0 with (first | ((with_reducible refine gate_dst (N := 2) rfl ?_); refine box_event ?hg (N := 2) ?hd (cs := #[.slice A0_0 l0_0.length c0_0, .slice A0_1 l0_1.length c0_1, .slice A0_2 l0_2.length c0_2]) (t := 40) ?hr ?_; (case hd => rfl); (case hg => rfl); (case hr => first | (go_simp; done) | (go_simp; rfl)); intro gb327 hg w4 hbox hb; have BK327 := Aside0.mk (hbox); have GW327 := Hg_ HB hg; have GE327 := GW327; replace HB := Hs_ HB hb; clear hb hbox hg) | ((with_reducible refine gate_dst (N := 3) rfl ?_); refine box_event ?hg (N := 3) ?hd (cs := #[.int .i64 a1_0, .int .i64 a1_1, .string a1_2, .string a1_3, .string a1_4, .slice A1_5 l1_5.length c1_5]) (t := 77) ?hr ?_; (case hd => rfl); (case hg => rfl); (case hr => first | (go_simp; done) | (go_simp; rfl)); intro gb328 hg w5 hbox hb; have BK328 := Aside0.mk (hbox); have GW328 := Hg_ HB hg; have GE328 := GW328; have NB327_328 := Bl_ BK327 hg; have NB328_327 := Bm_ NB327_328; replace BK327 := Bb_ BK327 hb; replace HB := Hs_ HB hb; clear hb hbox hg; have hnb6 := NB328_327.out; have hnc6 := NB327_328.out; obtain ⟨hcz7_0, hcz7_1, hcz7_2, hcz7_3, hcz7_4, hcz7_5, hfz7_0, hfz7_1, hfz7_2, hfz7_3, hfz7_4, hfz7_5⟩ := Bc6_ BK328))
 repeat (go_quiet (first | ((with_reducible refine gate_dst (N := 2) rfl ?_); refine box_event ?hg (N := 2) ?hd (cs := #[.slice A0_0 l0_0.length c0_0, .slice A0_1 l0_1.length c0_1, .slice A0_2 l0_2.length c0_2]) (t := 40) ?hr ?_; (case hd => rfl); (case hg => rfl); (case hr => first | (go_simp; done) | (go_simp; rfl)); intro gb327 hg w4 hbox hb; have BK327 := Aside0.mk (hbox); have GW327 := Hg_ HB hg; have GE327 := GW327; replace HB := Hs_ HB hb; clear hb hbox hg) | ((with_reducible refine gate_dst (N := 3) rfl ?_); refine box_event ?hg (N := 3) ?hd (cs := #[.int .i64 a1_0, .int .i64 a1_1, .string a1_2, .string a1_3, .string a1_4, .slice A1_5 l1_5.length c1_5]) (t := 77) ?hr ?_; (case hd => rfl); (case hg => rfl); (case hr => first | (go_simp; done) | (go_simp; rfl)); intro gb328 hg w5 hbox hb; have BK328 := Aside0.mk (hbox); have GW328 := Hg_ HB hg; have GE328 := GW328; have NB327_328 := Bl_ BK327 hg; have NB328_327 := Bm_ NB327_328; replace BK327 := Bb_ BK327 hb; replace HB := Hs_ HB hb; clear hb hbox hg; have hnb6 := NB328_327.out; have hnc6 := NB327_328.out; obtain ⟨hcz7_0, hcz7_1, hcz7_2, hcz7_3, hcz7_4, hcz7_5, hfz7_0, hfz7_1, hfz7_2, hfz7_3, hfz7_4, hfz7_5⟩ := Bc6_ BK328)); go_upto_block 0 with (first | ((with_reducible refine gate_dst (N := 2) rfl ?_); refine box_event ?hg (N := 2) ?hd (cs := #[.slice A0_0 l0_0.length c0_0, .slice A0_1 l0_1.length c0_1, .slice A0_2 l0_2.length c0_2]) (t := 40) ?hr ?_; (case hd => rfl); (case hg => rfl); (case hr => first | (go_simp; done) | (go_simp; rfl)); intro gb327 hg w4 hbox hb; have BK327 := Aside0.mk (hbox); have GW327 := Hg_ HB hg; have GE327 := GW327; replace HB := Hs_ HB hb; clear hb hbox hg) | ((with_reducible refine gate_dst (N := 3) rfl ?_); refine box_event ?hg (N := 3) ?hd (cs := #[.int .i64 a1_0, .int .i64 a1_1, .string a1_2, .string a1_3, .string a1_4, .slice A1_5 l1_5.length c1_5]) (t := 77) ?hr ?_; (case hd => rfl); (case hg => rfl); (case hr => first | (go_simp; done) | (go_simp; rfl)); intro gb328 hg w5 hbox hb; have BK328 := Aside0.mk (hbox); have GW328 := Hg_ HB hg; have GE328 := GW328; have NB327_328 := Bl_ BK327 hg; have NB328_327 := Bm_ NB327_328; replace BK327 := Bb_ BK327 hb; replace HB := Hs_ HB hb; clear hb hbox hg; have hnb6 := NB328_327.out; have hnc6 := NB327_328.out; obtain ⟨hcz7_0, hcz7_1, hcz7_2, hcz7_3, hcz7_4, hcz7_5, hfz7_0, hfz7_1, hfz7_2, hfz7_3, hfz7_4, hfz7_5⟩ := Bc6_ BK328)))
 (try simp only [Act.put, List.setIfInBounds_toArray, List.set_cons_zero, List.set_cons_succ])
 go_cut [5, 6] (fun v5 v6 wc => ∃ (kq : Nat) (x5_2 : Int) (x6_2 : Int), v5 = .int .i64 x5_2 ∧ v6 = .int .i64 x6_2 ∧ Aside0 (impl_kidsOk.j2 kq x5_2 x6_2 l0_0 l0_1 l0_2 a1_0 a1_1 a1_2 a1_3 a1_4 l1_5 = some r) ∧ Aside0 (kq ≤ k) ∧ Aside0 (wc.heap[gb327]? = some (.cells #[(.slice A0_0 l0_0.length c0_0), (.slice A0_1 l0_1.length c0_1), (.slice A0_2 l0_2.length c0_2)] 40 (0, 0))) ∧ Aside0 (wc.heap[gb328]? = some (.cells #[.int .i64 a1_0, .int .i64 a1_1, .string a1_2, .string a1_3, .string a1_4, (.slice A1_5 l1_5.length c1_5)] 77 (0, 0))) ∧ Aside0 (Below w.heap.size w wc))
 case first =>
  have H := HC3.out
  clear HC3
  by_cases c8 : a1_0 = 3
  ·rw [if_pos c8] at H
   have c8b0 : (a1_0 == 3) = true := beq_iff_eq.mpr c8
   have c8b1 : (a1_0 != 3) = false := bne_eq_false_iff_eq.mpr c8
   clear c8
   (first | rw [c8b0] | (simp only [i64_w, i32_w]; rw [c8b0]) | skip)
   have H' := Aside0.mk H
   clear H
   go_wp2
   repeat (go_quiet (fail); try go_wp2)
   go_meet
   case rel => exact ⟨_, (2), (0), Rr_, Rr_, H', ⟨by first | omega | exact Nat.le_refl _⟩, ⟨Bq_ BK327⟩, ⟨Bq_ BK328⟩, ⟨Hf_ HB⟩⟩
  ·rw [if_neg c8] at H
   have c8b0 : (a1_0 == 3) = false := beq_eq_false_iff_ne.mpr c8
   have c8b1 : (a1_0 != 3) = true := bne_iff_ne.mpr c8
   (first | rw [c8b0] | (simp only [i64_w, i32_w]; rw [c8b0]) | skip)
   have HC9 := Aside0.mk H
   clear H
   go_upto_if 15 with (fail)
   repeat (go_quiet (fail); go_upto_if 15 with (fail))
   go_cut [15] (fun v15 wc => ∃ (kq : Nat) (x15_8 : Bool), v15 = .bool x15_8 ∧ Aside0 (impl_kidsOk.j0 kq 0 0 a1_0 x15_8 l0_0 l0_1 l0_2 a1_0 a1_1 a1_2 a1_3 a1_4 l1_5 = some r) ∧ Aside0 (kq ≤ k) ∧ Aside0 (wc.heap[gb327]? = some (.cells #[(.slice A0_0 l0_0.length c0_0), (.slice A0_1 l0_1.length c0_1), (.slice A0_2 l0_2.length c0_2)] 40 (0, 0))) ∧ Aside0 (wc.heap[gb328]? = some (.cells #[.int .i64 a1_0, .int .i64 a1_1, .string a1_2, .string a1_3, .string a1_4, (.slice A1_5 l1_5.length c1_5)] 77 (0, 0))) ∧ Aside0 (Below w.heap.size w wc))
   case first =>
    have H := HC9.out
    clear HC9
    by_cases c10 : a1_0 = 4
    ·rw [if_pos c10] at H
     have c10b0 : (a1_0 == 4) = true := beq_iff_eq.mpr c10
     have c10b1 : (a1_0 != 4) = false := bne_eq_false_iff_eq.mpr c10
     clear c10
     (first | rw [c10b0] | (simp only [i64_w, i32_w]; rw [c10b0]) | skip)
     have H' := Aside0.mk H
     clear H
     go_wp2
     repeat (go_quiet (fail); try go_wp2)
     go_meet
     case rel => exact ⟨_, ((a1_0 == 4)), Rr_, H', ⟨by first | omega | exact Nat.le_refl _⟩, ⟨Bq_ BK327⟩, ⟨Bq_ BK328⟩, ⟨Hf_ HB⟩⟩
    ·rw [if_neg c10] at H
     have c10b0 : (a1_0 == 4) = false := beq_eq_false_iff_ne.mpr c10
     have c10b1 : (a1_0 != 4) = true := bne_iff_ne.mpr c10
     (first | rw [c10b0] | (simp only [i64_w, i32_w]; rw [c10b0]) | skip)
     by_cases c11 : a1_0 = 5
     ·rw [if_pos c11] at H
      have c11b0 : (a1_0 == 5) = true := beq_iff_eq.mpr c11
      have c11b1 : (a1_0 != 5) = false := bne_eq_false_iff_eq.mpr c11
      clear c11
      have H' := Aside0.mk H
      clear H
      go_wp2
      repeat (go_quiet (fail); try go_wp2)
      go_meet
      case rel => exact ⟨_, ((a1_0 == 5)), Rr_, H', ⟨by first | omega | exact Nat.le_refl _⟩, ⟨Bq_ BK327⟩, ⟨Bq_ BK328⟩, ⟨Hf_ HB⟩⟩
     ·rw [if_neg c11] at H
      have c11b0 : (a1_0 == 5) = false := beq_eq_false_iff_ne.mpr c11
      have c11b1 : (a1_0 != 5) = true := bne_iff_ne.mpr c11
      by_cases c12 : a1_0 = 11
      ·rw [if_pos c12] at H
       have c12b0 : (a1_0 == 11) = true := beq_iff_eq.mpr c12
       have c12b1 : (a1_0 != 11) = false := bne_eq_false_iff_eq.mpr c12
       clear c12
       have H' := Aside0.mk H
       clear H
       go_wp2
       repeat (go_quiet (fail); try go_wp2)
       go_meet
       case rel => exact ⟨_, ((a1_0 == 11)), Rr_, H', ⟨by first | omega | exact Nat.le_refl _⟩, ⟨Bq_ BK327⟩, ⟨Bq_ BK328⟩, ⟨Hf_ HB⟩⟩
      ·rw [if_neg c12] at H
       have c12b0 : (a1_0 == 11) = false := beq_eq_false_iff_ne.mpr c12
       have c12b1 : (a1_0 != 11) = true := bne_iff_ne.mpr c12
       by_cases c13 : a1_0 = 14
       ·rw [if_pos c13] at H
        have c13b0 : (a1_0 == 14) = true := beq_iff_eq.mpr c13
        have c13b1 : (a1_0 != 14) = false := bne_eq_false_iff_eq.mpr c13
        clear c13
        have H' := Aside0.mk H
        clear H
        go_wp2
        repeat (go_quiet (fail); try go_wp2)
        go_meet
        case rel => exact ⟨_, ((a1_0 == 14)), Rr_, H', ⟨by first | omega | exact Nat.le_refl _⟩, ⟨Bq_ BK327⟩, ⟨Bq_ BK328⟩, ⟨Hf_ HB⟩⟩
       ·rw [if_neg c13] at H
        have c13b0 : (a1_0 == 14) = false := beq_eq_false_iff_ne.mpr c13
        have c13b1 : (a1_0 != 14) = true := bne_iff_ne.mpr c13
        have H' := Aside0.mk H
        clear H
        go_wp2
        repeat (go_quiet (fail); try go_wp2)
        go_meet
        case rel => exact ⟨_, ((a1_0 == 15)), Rr_, H', ⟨by first | omega | exact Nat.le_refl _⟩, ⟨Bq_ BK327⟩, ⟨Bq_ BK328⟩, ⟨Hf_ HB⟩⟩
   case rest =>
    clear HC9
    try clear c1
    try clear p2
    try clear c6
    try clear c8
    try clear c8b0
    try clear c8b1
    try clear c10
    try clear c10b0
    try clear c10b1
    try clear c11
    try clear c11b0
    try clear c11b1
    try clear c12
    try clear c12b0
    try clear c12b1
    try clear c13
    try clear c13b0
    try clear c13b1
    try clear hcz7_0
    try clear hcz7_1
    try clear hcz7_2
    try clear hcz7_3
    try clear hcz7_4
    try clear hcz7_5
    try clear hfz7_0
    try clear hfz7_1
    try clear hfz7_2
    try clear hfz7_3
    try clear hfz7_4
    try clear hfz7_5
    obtain ⟨kq, x15_8, rfl, HA, HJ8, BK327, BK328, HB⟩ := hcut
    cases kq with
    | zero => exact absurd HA.out (by simp [impl_kidsOk.j0])
    | succ kj8 =>
     have H := HA.out
     clear HA
     simp only [impl_kidsOk.j0] at H
     by_cases c14 : x15_8 = true
     ·subst c14
      have H1 : (impl_kidsOk.j2 kj8 1 0 l0_0 l0_1 l0_2 a1_0 a1_1 a1_2 a1_3 a1_4 l1_5) = some r := by rw [if_pos rfl] at H; exact H
      clear H
      have H := H1
      clear H1
      have H' := Aside0.mk H
      clear H
      go_wp2
      repeat (go_quiet (fail); try go_wp2)
      go_meet
      case rel => exact ⟨_, (1), (0), Rr_, Rr_, H', ⟨by have := HJ8.out; first | omega | exact Nat.le_refl _⟩, ⟨Bq_ BK327⟩, ⟨Bq_ BK328⟩, ⟨Hf_ HB⟩⟩
     ·replace c14 := Bool.eq_false_iff.mpr c14
      subst c14
      have H1 : (if a1_0 = 12 then ((impl_within.f (wrap64 ((l1_5.length : Int) - 1)) 1 2).bind fun t329 => (if t329 = true then (impl_kidsOk.j2 kj8 1 (wrap64 ((l1_5.length : Int) - 1)) l0_0 l0_1 l0_2 a1_0 a1_1 a1_2 a1_3 a1_4 l1_5) else (some false))) else (if a1_0 = 13 then (impl_kidsOk.j2 kj8 1 1 l0_0 l0_1 l0_2 a1_0 a1_1 a1_2 a1_3 a1_4 l1_5) else (if a1_0 = 20 then (impl_kidsOk.l0 kj8 l1_5 (l1_5.length : Int) 0 l0_0 l0_1 l0_2 a1_0 a1_1 a1_2 a1_3 a1_4 l1_5) else (impl_kidsOk.j2 kj8 0 0 l0_0 l0_1 l0_2 a1_0 a1_1 a1_2 a1_3 a1_4 l1_5)))) = some r := by rw [if_neg (show ¬ (false = true) by decide)] at H; exact H
      clear H
      have H := H1
      clear H1
      by_cases c15 : a1_0 = 12
      ·rw [if_pos c15] at H
       have c15b0 : (a1_0 == 12) = true := beq_iff_eq.mpr c15
       have c15b1 : (a1_0 != 12) = false := bne_eq_false_iff_eq.mpr c15
       clear c15
       replace H := Option.bind_eq_some_iff.mp H
       obtain ⟨t329, A160, H⟩ := H
       replace H : (if t329 = true then (impl_kidsOk.j2 kj8 1 (wrap64 ((l1_5.length : Int) - 1)) l0_0 l0_1 l0_2 a1_0 a1_1 a1_2 a1_3 a1_4 l1_5) else (some false)) = some r := H
       have A16 := Aside0.mk A160
       clear A160
       by_cases c17 : t329 = true
       ·subst c17
        have H1 : (impl_kidsOk.j2 kj8 1 (wrap64 ((l1_5.length : Int) - 1)) l0_0 l0_1 l0_2 a1_0 a1_1 a1_2 a1_3 a1_4 l1_5) = some r := by rw [if_pos rfl] at H; exact H
        clear H
        have H := H1
        clear H1
        have H' := Aside0.mk H
        clear H
        have hnb18 := NB328_327.out
        have hnc18 := NB327_328.out
        obtain ⟨hcz19_0, hcz19_1, hcz19_2, hcz19_3, hcz19_4, hcz19_5, hfz19_0, hfz19_1, hfz19_2, hfz19_3, hfz19_4, hfz19_5⟩ := Bc6_ BK328
        go_wp2_with (first | (go_at_call 79; (with_reducible refine (impl_within.calls (wrap64 ((l1_5.length : Int) - 1)) 1 2 true _ A16.out).mono ?_); rintro e w' ⟨rfl, ⟨nd, rfl⟩⟩; (try first | exact ⟨rfl, _, World.drewN_drewN _ _ _⟩ | exact ⟨rfl, _, Eq.trans (World.drewN_drewN _ _ _) (congrArg (World.drewN _) (Nat.add_assoc _ _ _))⟩)))
        repeat (go_quiet (first | (go_at_call 79; (with_reducible refine (impl_within.calls (wrap64 ((l1_5.length : Int) - 1)) 1 2 true _ A16.out).mono ?_); rintro e w' ⟨rfl, ⟨nd, rfl⟩⟩; (try first | exact ⟨rfl, _, World.drewN_drewN _ _ _⟩ | exact ⟨rfl, _, Eq.trans (World.drewN_drewN _ _ _) (congrArg (World.drewN _) (Nat.add_assoc _ _ _))⟩))); try go_wp2_with (first | (go_at_call 79; (with_reducible refine (impl_within.calls (wrap64 ((l1_5.length : Int) - 1)) 1 2 true _ A16.out).mono ?_); rintro e w' ⟨rfl, ⟨nd, rfl⟩⟩; (try first | exact ⟨rfl, _, World.drewN_drewN _ _ _⟩ | exact ⟨rfl, _, Eq.trans (World.drewN_drewN _ _ _) (congrArg (World.drewN _) (Nat.add_assoc _ _ _))⟩))))
        go_meet
        case rel => exact ⟨_, (1), (wrap64 ((l1_5.length : Int) - 1)), Rr_, Rr_, H', ⟨by have := HJ8.out; first | omega | exact Nat.le_refl _⟩, ⟨Bq_ BK327⟩, ⟨Bq_ BK328⟩, ⟨Hf_ HB⟩⟩
       ·replace c17 := Bool.eq_false_iff.mpr c17
        subst c17
        have H1 : (some false) = some r := by rw [if_neg (show ¬ (false = true) by decide)] at H; exact H
        clear H
        have H := H1
        clear H1
        obtain rfl := Option.some.inj H
        have hnb20 := NB328_327.out
        have hnc20 := NB327_328.out
        obtain ⟨hcz21_0, hcz21_1, hcz21_2, hcz21_3, hcz21_4, hcz21_5, hfz21_0, hfz21_1, hfz21_2, hfz21_3, hfz21_4, hfz21_5⟩ := Bc6_ BK328
        go_wp2_with (first | (go_at_call 79; (with_reducible refine (impl_within.calls (wrap64 ((l1_5.length : Int) - 1)) 1 2 false _ A16.out).mono ?_); rintro e w' ⟨rfl, ⟨nd, rfl⟩⟩; (try first | exact ⟨rfl, _, World.drewN_drewN _ _ _⟩ | exact ⟨rfl, _, Eq.trans (World.drewN_drewN _ _ _) (congrArg (World.drewN _) (Nat.add_assoc _ _ _))⟩)))
        repeat (go_quiet (first | (go_at_call 79; (with_reducible refine (impl_within.calls (wrap64 ((l1_5.length : Int) - 1)) 1 2 false _ A16.out).mono ?_); rintro e w' ⟨rfl, ⟨nd, rfl⟩⟩; (try first | exact ⟨rfl, _, World.drewN_drewN _ _ _⟩ | exact ⟨rfl, _, Eq.trans (World.drewN_drewN _ _ _) (congrArg (World.drewN _) (Nat.add_assoc _ _ _))⟩))); try go_wp2_with (first | (go_at_call 79; (with_reducible refine (impl_within.calls (wrap64 ((l1_5.length : Int) - 1)) 1 2 false _ A16.out).mono ?_); rintro e w' ⟨rfl, ⟨nd, rfl⟩⟩; (try first | exact ⟨rfl, _, World.drewN_drewN _ _ _⟩ | exact ⟨rfl, _, Eq.trans (World.drewN_drewN _ _ _) (congrArg (World.drewN _) (Nat.add_assoc _ _ _))⟩))))
        go_ret
        exact ⟨Re_, Hf_ HB⟩
      ·rw [if_neg c15] at H
       have c15b0 : (a1_0 == 12) = false := beq_eq_false_iff_ne.mpr c15
       have c15b1 : (a1_0 != 12) = true := bne_iff_ne.mpr c15
       by_cases c22 : a1_0 = 13
       ·rw [if_pos c22] at H
        have c22b0 : (a1_0 == 13) = true := beq_iff_eq.mpr c22
        have c22b1 : (a1_0 != 13) = false := bne_eq_false_iff_eq.mpr c22
        clear c22
        have H' := Aside0.mk H
        clear H
        go_wp2
        repeat (go_quiet (fail); try go_wp2)
        go_meet
        case rel => exact ⟨_, (1), (1), Rr_, Rr_, H', ⟨by have := HJ8.out; first | omega | exact Nat.le_refl _⟩, ⟨Bq_ BK327⟩, ⟨Bq_ BK328⟩, ⟨Hf_ HB⟩⟩
       ·rw [if_neg c22] at H
        have c22b0 : (a1_0 == 13) = false := beq_eq_false_iff_ne.mpr c22
        have c22b1 : (a1_0 != 13) = true := bne_iff_ne.mpr c22
        by_cases c23 : a1_0 = 20
        ·rw [if_pos c23] at H
         have c23b0 : (a1_0 == 20) = true := beq_iff_eq.mpr c23
         have c23b1 : (a1_0 != 20) = false := bne_eq_false_iff_eq.mpr c23
         clear c23
         have H' := Aside0.mk H
         clear H
         have hnb24 := NB328_327.out
         have hnc24 := NB327_328.out
         obtain ⟨hcz25_0, hcz25_1, hcz25_2, hcz25_3, hcz25_4, hcz25_5, hfz25_0, hfz25_1, hfz25_2, hfz25_3, hfz25_4, hfz25_5⟩ := Bc6_ BK328
         go_wp2
         repeat (go_quiet (fail); try go_wp2)
         go_loopg [37] kj8 (fun kq v37 w' => ∃ (x37_2 : Int), v37 = .int .i64 x37_2 ∧ Aside0 (impl_kidsOk.l0 kq l1_5 (l1_5.length : Int) x37_2 l0_0 l0_1 l0_2 a1_0 a1_1 a1_2 a1_3 a1_4 l1_5 = some r) ∧ Aside0 (kq ≤ kj8) ∧ Aside0 (w'.heap[gb327]? = some (.cells #[(.slice A0_0 l0_0.length c0_0), (.slice A0_1 l0_1.length c0_1), (.slice A0_2 l0_2.length c0_2)] 40 (0, 0))) ∧ Aside0 (w'.heap[gb328]? = some (.cells #[.int .i64 a1_0, .int .i64 a1_1, .string a1_2, .string a1_3, .string a1_4, (.slice A1_5 l1_5.length c1_5)] 77 (0, 0))) ∧ Aside0 (Below w.heap.size w w'))
         case atStart => exact ⟨(0), Rr_, H', ⟨Nat.le_refl _⟩, ⟨Bq_ BK327⟩, ⟨Bq_ BK328⟩, ⟨Hf_ HB⟩⟩
         case round =>
          clear H'
          try clear c1
          try clear c2
          try clear p2
          try clear c6
          try clear p6
          try clear c8
          try clear c8b0
          try clear c8b1
          try clear c10
          try clear c10b0
          try clear c10b1
          try clear c11
          try clear c11b0
          try clear c11b1
          try clear c12
          try clear c12b0
          try clear c12b1
          try clear c13
          try clear c13b0
          try clear c13b1
          try clear c14
          try clear c15
          try clear c15b0
          try clear c15b1
          try clear c17
          try clear c18
          try clear c20
          try clear c22
          try clear c22b0
          try clear c22b1
          try clear c23
          try clear c23b0
          try clear c23b1
          try clear c24
          try clear hcz19_0
          try clear hcz19_1
          try clear hcz19_2
          try clear hcz19_3
          try clear hcz19_4
          try clear hcz19_5
          try clear hcz21_0
          try clear hcz21_1
          try clear hcz21_2
          try clear hcz21_3
          try clear hcz21_4
          try clear hcz21_5
          try clear hcz25_0
          try clear hcz25_1
          try clear hcz25_2
          try clear hcz25_3
          try clear hcz25_4
          try clear hcz25_5
          try clear hcz7_0
          try clear hcz7_1
          try clear hcz7_2
          try clear hcz7_3
          try clear hcz7_4
          try clear hcz7_5
          try clear hfz19_0
          try clear hfz19_1
          try clear hfz19_2
          try clear hfz19_3
          try clear hfz19_4
          try clear hfz19_5
          try clear hfz21_0
          try clear hfz21_1
          try clear hfz21_2
          try clear hfz21_3
          try clear hfz21_4
          try clear hfz21_5
          try clear hfz25_0
          try clear hfz25_1
          try clear hfz25_2
          try clear hfz25_3
          try clear hfz25_4
          try clear hfz25_5
          try clear hfz7_0
          try clear hfz7_1
          try clear hfz7_2
          try clear hfz7_3
          try clear hfz7_4
          try clear hfz7_5
          try clear p2
          obtain ⟨x37_2, rfl, HA, HK2, BK327, BK328, HB⟩ := hrel
          cases gk with
          | zero => exact absurd HA.out (by simp [impl_kidsOk.l0])
          | succ k2 =>
           have H := HA.out
           clear HA
           simp only [impl_kidsOk.l0] at H
           by_cases c26 : x37_2 < (l1_5.length : Int)
           ·rw [if_pos c26] at H
            have c26b0 : decide (x37_2 < (l1_5.length : Int)) = true := decide_eq_true c26
            clear c26
            by_cases c27 : 0 ≤ x37_2
            ·rw [if_pos c27] at H
             have c27b0 : decide (0 ≤ x37_2) = true := decide_eq_true c27
             clear c27
             by_cases c28 : x37_2 < (l1_5.length : Int)
             ·rw [if_pos c28] at H
              have c28b0 : decide (x37_2 < (l1_5.length : Int)) = true := decide_eq_true c28
              clear c28
              replace H := Option.bind_eq_some_iff.mp H
              obtain ⟨t331, A290, H⟩ := H
              replace H : (if t331 = true then (impl_kidsOk.l0 k2 l1_5 (l1_5.length : Int) (wrap64 (x37_2 + 1)) l0_0 l0_1 l0_2 a1_0 a1_1 a1_2 a1_3 a1_4 l1_5) else (some false)) = some r := H
              have A29 := Aside0.mk A290
              clear A290
              by_cases c30 : t331 = true
              ·subst c30
               have H1 : (impl_kidsOk.l0 k2 l1_5 (l1_5.length : Int) (wrap64 (x37_2 + 1)) l0_0 l0_1 l0_2 a1_0 a1_1 a1_2 a1_3 a1_4 l1_5) = some r := by rw [if_pos rfl] at H; exact H
               clear H
               have H := H1
               clear H1
               have H' := Aside0.mk H
               clear H
               have p330 : 0 ≤ (x37_2 : Int) := of_decide_eq_true As_
               have q330 : x37_2 < (l1_5.length : Int) := of_decide_eq_true As_
               obtain ⟨ad330, e330, hx330_0⟩ := Kd.at_int HR1_5.out x37_2 p330 q330
               cases e330
               replace hx330_0 := (HB.out.cell (World.block_lt_of_cell? w _ hx330_0)).trans hx330_0
               replace p330 := eq_true p330
               replace q330 := eq_true q330
               have hnb31 := NB327_328.out
               have hnc31 := NB328_327.out
               obtain ⟨hcz32_0, hcz32_1, hcz32_2, hfz32_0, hfz32_1, hfz32_2⟩ := Bc3_ BK327
               go_wp2_with (first | (go_at_call 128; (with_reducible refine (impl_isStatement.calls _ _ l0_0 _ _ l0_1 _ _ l0_2 (rd l1_5 x37_2) true _ ?side1 ?side2 ?side3 ?side4 ?side5 ?side6 A29.out).mono ?_); (case side1 => exact Sc_ HR0_0 HB); (case side2 => exact HC0_0.out); (case side3 => exact Sc_ HR0_1 HB); (case side4 => exact HC0_1.out); (case side5 => exact Sc_ HR0_2 HB); (case side6 => exact HC0_2.out); rintro e w33 ⟨rfl, hb⟩; replace BK327 := Bb_ BK327 hb; replace BK328 := Bb_ BK328 hb; replace HB := Hs_ HB hb; (try clear hb); (try clear hb2); (try clear hk); (try clear hi)))
               repeat (go_quiet (first | (go_at_call 128; (with_reducible refine (impl_isStatement.calls _ _ l0_0 _ _ l0_1 _ _ l0_2 (rd l1_5 x37_2) true _ ?side1 ?side2 ?side3 ?side4 ?side5 ?side6 A29.out).mono ?_); (case side1 => exact Sc_ HR0_0 HB); (case side2 => exact HC0_0.out); (case side3 => exact Sc_ HR0_1 HB); (case side4 => exact HC0_1.out); (case side5 => exact Sc_ HR0_2 HB); (case side6 => exact HC0_2.out); rintro e w33 ⟨rfl, hb⟩; replace BK327 := Bb_ BK327 hb; replace BK328 := Bb_ BK328 hb; replace HB := Hs_ HB hb; (try clear hb); (try clear hb2); (try clear hk); (try clear hi))); try go_wp2_with (first | (go_at_call 128; (with_reducible refine (impl_isStatement.calls _ _ l0_0 _ _ l0_1 _ _ l0_2 (rd l1_5 x37_2) true _ ?side1 ?side2 ?side3 ?side4 ?side5 ?side6 A29.out).mono ?_); (case side1 => exact Sc_ HR0_0 HB); (case side2 => exact HC0_0.out); (case side3 => exact Sc_ HR0_1 HB); (case side4 => exact HC0_1.out); (case side5 => exact Sc_ HR0_2 HB); (case side6 => exact HC0_2.out); rintro e w33 ⟨rfl, hb⟩; replace BK327 := Bb_ BK327 hb; replace BK328 := Bb_ BK328 hb; replace HB := Hs_ HB hb; (try clear hb); (try clear hb2); (try clear hk); (try clear hi))))
               go_roundg k2
               case measure => have := HJ8.out; have := HK2.out; omega
               case rel => exact ⟨(wrap64 (x37_2 + 1)), Rr_, H', ⟨by have := HJ8.out; have := HK2.out; omega⟩, ⟨Bq_ BK327⟩, ⟨Bq_ BK328⟩, ⟨Hf_ HB⟩⟩
              ·replace c30 := Bool.eq_false_iff.mpr c30
               subst c30
               have H1 : (some false) = some r := by rw [if_neg (show ¬ (false = true) by decide)] at H; exact H
               clear H
               have H := H1
               clear H1
               obtain rfl := Option.some.inj H
               have p330 : 0 ≤ (x37_2 : Int) := of_decide_eq_true As_
               have q330 : x37_2 < (l1_5.length : Int) := of_decide_eq_true As_
               obtain ⟨ad330, e330, hx330_0⟩ := Kd.at_int HR1_5.out x37_2 p330 q330
               cases e330
               replace hx330_0 := (HB.out.cell (World.block_lt_of_cell? w _ hx330_0)).trans hx330_0
               replace p330 := eq_true p330
               replace q330 := eq_true q330
               have hnb34 := NB327_328.out
               have hnc34 := NB328_327.out
               obtain ⟨hcz35_0, hcz35_1, hcz35_2, hfz35_0, hfz35_1, hfz35_2⟩ := Bc3_ BK327
               go_wp2_with (first | (go_at_call 128; (with_reducible refine (impl_isStatement.calls _ _ l0_0 _ _ l0_1 _ _ l0_2 (rd l1_5 x37_2) false _ ?side1 ?side2 ?side3 ?side4 ?side5 ?side6 A29.out).mono ?_); (case side1 => exact Sc_ HR0_0 HB); (case side2 => exact HC0_0.out); (case side3 => exact Sc_ HR0_1 HB); (case side4 => exact HC0_1.out); (case side5 => exact Sc_ HR0_2 HB); (case side6 => exact HC0_2.out); rintro e w36 ⟨rfl, hb⟩; replace BK327 := Bb_ BK327 hb; replace BK328 := Bb_ BK328 hb; replace HB := Hs_ HB hb; (try clear hb); (try clear hb2); (try clear hk); (try clear hi)))
               repeat (go_quiet (first | (go_at_call 128; (with_reducible refine (impl_isStatement.calls _ _ l0_0 _ _ l0_1 _ _ l0_2 (rd l1_5 x37_2) false _ ?side1 ?side2 ?side3 ?side4 ?side5 ?side6 A29.out).mono ?_); (case side1 => exact Sc_ HR0_0 HB); (case side2 => exact HC0_0.out); (case side3 => exact Sc_ HR0_1 HB); (case side4 => exact HC0_1.out); (case side5 => exact Sc_ HR0_2 HB); (case side6 => exact HC0_2.out); rintro e w36 ⟨rfl, hb⟩; replace BK327 := Bb_ BK327 hb; replace BK328 := Bb_ BK328 hb; replace HB := Hs_ HB hb; (try clear hb); (try clear hb2); (try clear hk); (try clear hi))); try go_wp2_with (first | (go_at_call 128; (with_reducible refine (impl_isStatement.calls _ _ l0_0 _ _ l0_1 _ _ l0_2 (rd l1_5 x37_2) false _ ?side1 ?side2 ?side3 ?side4 ?side5 ?side6 A29.out).mono ?_); (case side1 => exact Sc_ HR0_0 HB); (case side2 => exact HC0_0.out); (case side3 => exact Sc_ HR0_1 HB); (case side4 => exact HC0_1.out); (case side5 => exact Sc_ HR0_2 HB); (case side6 => exact HC0_2.out); rintro e w36 ⟨rfl, hb⟩; replace BK327 := Bb_ BK327 hb; replace BK328 := Bb_ BK328 hb; replace HB := Hs_ HB hb; (try clear hb); (try clear hb2); (try clear hk); (try clear hi))))
               go_ret
               exact ⟨Re_, Hf_ HB⟩
             ·rw [if_neg c28] at H
              exact absurd H (by simp)
            ·rw [if_neg c27] at H
             exact absurd H (by simp)
           ·rw [if_neg c26] at H
            have c26b0 : decide (x37_2 < (l1_5.length : Int)) = false := decide_eq_false c26
            clear c26
            replace H := Option.bind_eq_some_iff.mp H
            obtain ⟨t332, A370, H⟩ := H
            replace H : (some t332) = some r := H
            have A37 := Aside0.mk A370
            clear A370
            obtain rfl := Option.some.inj H
            have hnb38 := NB328_327.out
            have hnc38 := NB327_328.out
            obtain ⟨hcz39_0, hcz39_1, hcz39_2, hcz39_3, hcz39_4, hcz39_5, hfz39_0, hfz39_1, hfz39_2, hfz39_3, hfz39_4, hfz39_5⟩ := Bc6_ BK328
            go_wp2_with (first | (go_at_call 79; (with_reducible refine (impl_within.calls (l1_5.length : Int) 1 12 t332 _ A37.out).mono ?_); rintro e w' ⟨rfl, ⟨nd, rfl⟩⟩; (try first | exact ⟨rfl, _, World.drewN_drewN _ _ _⟩ | exact ⟨rfl, _, Eq.trans (World.drewN_drewN _ _ _) (congrArg (World.drewN _) (Nat.add_assoc _ _ _))⟩)))
            repeat (go_quiet (first | (go_at_call 79; (with_reducible refine (impl_within.calls (l1_5.length : Int) 1 12 t332 _ A37.out).mono ?_); rintro e w' ⟨rfl, ⟨nd, rfl⟩⟩; (try first | exact ⟨rfl, _, World.drewN_drewN _ _ _⟩ | exact ⟨rfl, _, Eq.trans (World.drewN_drewN _ _ _) (congrArg (World.drewN _) (Nat.add_assoc _ _ _))⟩))); try go_wp2_with (first | (go_at_call 79; (with_reducible refine (impl_within.calls (l1_5.length : Int) 1 12 t332 _ A37.out).mono ?_); rintro e w' ⟨rfl, ⟨nd, rfl⟩⟩; (try first | exact ⟨rfl, _, World.drewN_drewN _ _ _⟩ | exact ⟨rfl, _, Eq.trans (World.drewN_drewN _ _ _) (congrArg (World.drewN _) (Nat.add_assoc _ _ _))⟩))))
            go_ret
            exact ⟨Re_, Hf_ HB⟩
        ·rw [if_neg c23] at H
         have c23b0 : (a1_0 == 20) = false := beq_eq_false_iff_ne.mpr c23
         have c23b1 : (a1_0 != 20) = true := bne_iff_ne.mpr c23
         have H' := Aside0.mk H
         clear H
         go_wp2
         repeat (go_quiet (fail); try go_wp2)
         go_meet
         case rel => exact ⟨_, (0), (0), Rr_, Rr_, H', ⟨by have := HJ8.out; first | omega | exact Nat.le_refl _⟩, ⟨Bq_ BK327⟩, ⟨Bq_ BK328⟩, ⟨Hf_ HB⟩⟩
 case rest =>
  clear HC3
  try clear c1
  try clear c2
  try clear p2
  try clear c3
  try clear p3
  try clear q3
  try clear hx3
  try clear c6
  try clear p6
  try clear c8
  try clear c8b0
  try clear c8b1
  try clear c10
  try clear c10b0
  try clear c10b1
  try clear c11
  try clear c11b0
  try clear c11b1
  try clear c12
  try clear c12b0
  try clear c12b1
  try clear c13
  try clear c13b0
  try clear c13b1
  try clear c14
  try clear c15
  try clear c15b0
  try clear c15b1
  try clear c17
  try clear c18
  try clear c20
  try clear c22
  try clear c22b0
  try clear c22b1
  try clear c23
  try clear c23b0
  try clear c23b1
  try clear c24
  try clear c26
  try clear c26b0
  try clear c27
  try clear c27b0
  try clear c28
  try clear c28b0
  try clear c30
  try clear c31
  try clear p33
  try clear q33
  try clear hx33
  try clear c34
  try clear c38
  try clear hcz19_0
  try clear hcz19_1
  try clear hcz19_2
  try clear hcz19_3
  try clear hcz19_4
  try clear hcz19_5
  try clear hcz21_0
  try clear hcz21_1
  try clear hcz21_2
  try clear hcz21_3
  try clear hcz21_4
  try clear hcz21_5
  try clear hcz25_0
  try clear hcz25_1
  try clear hcz25_2
  try clear hcz25_3
  try clear hcz25_4
  try clear hcz25_5
  try clear hcz32_0
  try clear hcz32_1
  try clear hcz32_2
  try clear hcz35_0
  try clear hcz35_1
  try clear hcz35_2
  try clear hcz39_0
  try clear hcz39_1
  try clear hcz39_2
  try clear hcz39_3
  try clear hcz39_4
  try clear hcz39_5
  try clear hcz7_0
  try clear hcz7_1
  try clear hcz7_2
  try clear hcz7_3
  try clear hcz7_4
  try clear hcz7_5
  try clear hfz19_0
  try clear hfz19_1
  try clear hfz19_2
  try clear hfz19_3
  try clear hfz19_4
  try clear hfz19_5
  try clear hfz21_0
  try clear hfz21_1
  try clear hfz21_2
  try clear hfz21_3
  try clear hfz21_4
  try clear hfz21_5
  try clear hfz25_0
  try clear hfz25_1
  try clear hfz25_2
  try clear hfz25_3
  try clear hfz25_4
  try clear hfz25_5
  try clear hfz32_0
  try clear hfz32_1
  try clear hfz32_2
  try clear hfz35_0
  try clear hfz35_1
  try clear hfz35_2
  try clear hfz39_0
  try clear hfz39_1
  try clear hfz39_2
  try clear hfz39_3
  try clear hfz39_4
  try clear hfz39_5
  try clear hfz7_0
  try clear hfz7_1
  try clear hfz7_2
  try clear hfz7_3
  try clear hfz7_4
  try clear hfz7_5
  try clear hx330_0
  try clear p2
  try clear p330
  try clear p6
  try clear q330
  obtain ⟨kq, x5_2, x6_2, rfl, rfl, HA, HJ2, BK327, BK328, HB⟩ := hcut
  cases kq with
  | zero => exact absurd HA.out (by simp [impl_kidsOk.j2])
  | succ kj2 =>
   have H := HA.out
   clear HA
   simp only [impl_kidsOk.j2] at H
   by_cases c40 : (l1_5.length : Int) = (wrap64 (x5_2 + x6_2))
   ·rw [if_pos c40] at H
    have c40b0 : ((l1_5.length : Int) == (wrap64 (x5_2 + x6_2))) = true := beq_iff_eq.mpr c40
    have c40b1 : ((l1_5.length : Int) != (wrap64 (x5_2 + x6_2))) = false := bne_eq_false_iff_eq.mpr c40
    clear c40
    have H' := Aside0.mk H
    clear H
    have hnb41 := NB328_327.out
    have hnc41 := NB327_328.out
    obtain ⟨hcz42_0, hcz42_1, hcz42_2, hcz42_3, hcz42_4, hcz42_5, hfz42_0, hfz42_1, hfz42_2, hfz42_3, hfz42_4, hfz42_5⟩ := Bc6_ BK328
    go_wp2
    repeat (go_quiet (fail); try go_wp2)
    go_loopg [60] kj2 (fun kq v60 w' => ∃ (x60_2 : Int), v60 = .int .i64 x60_2 ∧ Aside0 (impl_kidsOk.l1 kq x5_2 l1_5 (l1_5.length : Int) x60_2 l0_0 l0_1 l0_2 = some r) ∧ Aside0 (kq ≤ kj2) ∧ Aside0 (w'.heap[gb327]? = some (.cells #[(.slice A0_0 l0_0.length c0_0), (.slice A0_1 l0_1.length c0_1), (.slice A0_2 l0_2.length c0_2)] 40 (0, 0))) ∧ Aside0 (w'.heap[gb328]? = some (.cells #[.int .i64 a1_0, .int .i64 a1_1, .string a1_2, .string a1_3, .string a1_4, (.slice A1_5 l1_5.length c1_5)] 77 (0, 0))) ∧ Aside0 (Below w.heap.size w w'))
    case atStart => exact ⟨(0), Rr_, H', ⟨Nat.le_refl _⟩, ⟨Bq_ BK327⟩, ⟨Bq_ BK328⟩, ⟨Hf_ HB⟩⟩
    case round =>
     clear H'
     try clear c1
     try clear c2
     try clear p2
     try clear c3
     try clear p3
     try clear q3
     try clear hx3
     try clear c4
     try clear c6
     try clear p6
     try clear c8
     try clear c8b0
     try clear c8b1
     try clear c10
     try clear c10b0
     try clear c10b1
     try clear c11
     try clear c11b0
     try clear c11b1
     try clear c12
     try clear c12b0
     try clear c12b1
     try clear c13
     try clear c13b0
     try clear c13b1
     try clear c14
     try clear c15
     try clear c15b0
     try clear c15b1
     try clear c17
     try clear c18
     try clear c20
     try clear c22
     try clear c22b0
     try clear c22b1
     try clear c23
     try clear c23b0
     try clear c23b1
     try clear c24
     try clear c26
     try clear c26b0
     try clear c27
     try clear c27b0
     try clear c28
     try clear c28b0
     try clear c30
     try clear c31
     try clear p33
     try clear q33
     try clear hx33
     try clear c34
     try clear c38
     try clear c40
     try clear c40b0
     try clear c40b1
     try clear c41
     try clear hcz19_0
     try clear hcz19_1
     try clear hcz19_2
     try clear hcz19_3
     try clear hcz19_4
     try clear hcz19_5
     try clear hcz21_0
     try clear hcz21_1
     try clear hcz21_2
     try clear hcz21_3
     try clear hcz21_4
     try clear hcz21_5
     try clear hcz25_0
     try clear hcz25_1
     try clear hcz25_2
     try clear hcz25_3
     try clear hcz25_4
     try clear hcz25_5
     try clear hcz32_0
     try clear hcz32_1
     try clear hcz32_2
     try clear hcz35_0
     try clear hcz35_1
     try clear hcz35_2
     try clear hcz39_0
     try clear hcz39_1
     try clear hcz39_2
     try clear hcz39_3
     try clear hcz39_4
     try clear hcz39_5
     try clear hcz42_0
     try clear hcz42_1
     try clear hcz42_2
     try clear hcz42_3
     try clear hcz42_4
     try clear hcz42_5
     try clear hcz7_0
     try clear hcz7_1
     try clear hcz7_2
     try clear hcz7_3
     try clear hcz7_4
     try clear hcz7_5
     try clear hfz19_0
     try clear hfz19_1
     try clear hfz19_2
     try clear hfz19_3
     try clear hfz19_4
     try clear hfz19_5
     try clear hfz21_0
     try clear hfz21_1
     try clear hfz21_2
     try clear hfz21_3
     try clear hfz21_4
     try clear hfz21_5
     try clear hfz25_0
     try clear hfz25_1
     try clear hfz25_2
     try clear hfz25_3
     try clear hfz25_4
     try clear hfz25_5
     try clear hfz32_0
     try clear hfz32_1
     try clear hfz32_2
     try clear hfz35_0
     try clear hfz35_1
     try clear hfz35_2
     try clear hfz39_0
     try clear hfz39_1
     try clear hfz39_2
     try clear hfz39_3
     try clear hfz39_4
     try clear hfz39_5
     try clear hfz42_0
     try clear hfz42_1
     try clear hfz42_2
     try clear hfz42_3
     try clear hfz42_4
     try clear hfz42_5
     try clear hfz7_0
     try clear hfz7_1
     try clear hfz7_2
     try clear hfz7_3
     try clear hfz7_4
     try clear hfz7_5
     try clear hx330_0
     try clear p2
     try clear p3
     try clear p33
     try clear p330
     try clear p6
     try clear q3
     try clear q33
     try clear q330
     obtain ⟨x60_2, rfl, HA, HK2, BK327, BK328, HB⟩ := hrel
     cases gk with
     | zero => exact absurd HA.out (by simp [impl_kidsOk.l1])
     | succ k2 =>
      have H := HA.out
      clear HA
      simp only [impl_kidsOk.l1] at H
      by_cases c43 : x60_2 < (l1_5.length : Int)
      ·rw [if_pos c43] at H
       have c43b0 : decide (x60_2 < (l1_5.length : Int)) = true := decide_eq_true c43
       clear c43
       by_cases c44 : 0 ≤ x60_2
       ·rw [if_pos c44] at H
        have c44b0 : decide (0 ≤ x60_2) = true := decide_eq_true c44
        clear c44
        by_cases c45 : x60_2 < (l1_5.length : Int)
        ·rw [if_pos c45] at H
         have c45b0 : decide (x60_2 < (l1_5.length : Int)) = true := decide_eq_true c45
         clear c45
         by_cases c46 : x60_2 < x5_2
         ·rw [if_pos c46] at H
          have c46b0 : decide (x60_2 < x5_2) = true := decide_eq_true c46
          clear c46
          replace H := Option.bind_eq_some_iff.mp H
          obtain ⟨t334, A470, H⟩ := H
          replace H : (if t334 = true then (if x60_2 ≥ x5_2 then ((impl_isBlock.f l0_0 l0_1 l0_2 (rd l1_5 x60_2)).bind fun t335 => (if t335 = true then (impl_kidsOk.l1 k2 x5_2 l1_5 (l1_5.length : Int) (wrap64 (x60_2 + 1)) l0_0 l0_1 l0_2) else (some false))) else (impl_kidsOk.l1 k2 x5_2 l1_5 (l1_5.length : Int) (wrap64 (x60_2 + 1)) l0_0 l0_1 l0_2)) else (some false)) = some r := H
          have A47 := Aside0.mk A470
          clear A470
          by_cases c48 : t334 = true
          ·subst c48
           have H1 : (if x60_2 ≥ x5_2 then ((impl_isBlock.f l0_0 l0_1 l0_2 (rd l1_5 x60_2)).bind fun t335 => (if t335 = true then (impl_kidsOk.l1 k2 x5_2 l1_5 (l1_5.length : Int) (wrap64 (x60_2 + 1)) l0_0 l0_1 l0_2) else (some false))) else (impl_kidsOk.l1 k2 x5_2 l1_5 (l1_5.length : Int) (wrap64 (x60_2 + 1)) l0_0 l0_1 l0_2)) = some r := by rw [if_pos rfl] at H; exact H
           clear H
           have H := H1
           clear H1
           by_cases c49 : x60_2 ≥ x5_2
           ·rw [if_pos c49] at H
            have c49b0 : decide (x5_2 ≤ x60_2) = true := decide_eq_true c49
            clear c49
            replace H := Option.bind_eq_some_iff.mp H
            obtain ⟨t335, A500, H⟩ := H
            replace H : (if t335 = true then (impl_kidsOk.l1 k2 x5_2 l1_5 (l1_5.length : Int) (wrap64 (x60_2 + 1)) l0_0 l0_1 l0_2) else (some false)) = some r := H
            have A50 := Aside0.mk A500
            clear A500
            by_cases c51 : t335 = true
            ·subst c51
             have H1 : (impl_kidsOk.l1 k2 x5_2 l1_5 (l1_5.length : Int) (wrap64 (x60_2 + 1)) l0_0 l0_1 l0_2) = some r := by rw [if_pos rfl] at H; exact H
             clear H
             have H := H1
             clear H1
             have H' := Aside0.mk H
             clear H
             have p333 : 0 ≤ (x60_2 : Int) := of_decide_eq_true As_
             have q333 : x60_2 < (l1_5.length : Int) := of_decide_eq_true As_
             obtain ⟨ad333, e333, hx333_0⟩ := Kd.at_int HR1_5.out x60_2 p333 q333
             cases e333
             replace hx333_0 := (HB.out.cell (World.block_lt_of_cell? w _ hx333_0)).trans hx333_0
             replace p333 := eq_true p333
             replace q333 := eq_true q333
             have hnb52 := NB327_328.out
             have hnc52 := NB328_327.out
             obtain ⟨hcz53_0, hcz53_1, hcz53_2, hfz53_0, hfz53_1, hfz53_2⟩ := Bc3_ BK327
             go_wp2_with (first | (go_at_call 102; (with_reducible refine (impl_isValue.calls _ _ l0_0 _ _ l0_1 _ _ l0_2 (rd l1_5 x60_2) true _ ?side1 ?side2 ?side3 ?side4 ?side5 ?side6 A47.out).mono ?_); (case side1 => exact Sc_ HR0_0 HB); (case side2 => exact HC0_0.out); (case side3 => exact Sc_ HR0_1 HB); (case side4 => exact HC0_1.out); (case side5 => exact Sc_ HR0_2 HB); (case side6 => exact HC0_2.out); rintro e w54 ⟨rfl, hb⟩; replace BK327 := Bb_ BK327 hb; replace BK328 := Bb_ BK328 hb; replace HB := Hs_ HB hb; (try clear hb); (try clear hb2); (try clear hk); (try clear hi); obtain ⟨hcz55_0, hcz55_1, hcz55_2, hfz55_0, hfz55_1, hfz55_2⟩ := Bc3_ BK327) | (go_at_call 96; (with_reducible refine (impl_isBlock.calls _ _ l0_0 _ _ l0_1 _ _ l0_2 (rd l1_5 x60_2) true _ ?side1 ?side2 ?side3 ?side4 ?side5 ?side6 A50.out).mono ?_); (case side1 => exact Sc_ HR0_0 HB); (case side2 => exact HC0_0.out); (case side3 => exact Sc_ HR0_1 HB); (case side4 => exact HC0_1.out); (case side5 => exact Sc_ HR0_2 HB); (case side6 => exact HC0_2.out); rintro e w56 ⟨rfl, hb⟩; replace BK327 := Bb_ BK327 hb; replace BK328 := Bb_ BK328 hb; replace HB := Hs_ HB hb; (try clear hb); (try clear hb2); (try clear hk); (try clear hi)))
             repeat (go_quiet (first | (go_at_call 102; (with_reducible refine (impl_isValue.calls _ _ l0_0 _ _ l0_1 _ _ l0_2 (rd l1_5 x60_2) true _ ?side1 ?side2 ?side3 ?side4 ?side5 ?side6 A47.out).mono ?_); (case side1 => exact Sc_ HR0_0 HB); (case side2 => exact HC0_0.out); (case side3 => exact Sc_ HR0_1 HB); (case side4 => exact HC0_1.out); (case side5 => exact Sc_ HR0_2 HB); (case side6 => exact HC0_2.out); rintro e w54 ⟨rfl, hb⟩; replace BK327 := Bb_ BK327 hb; replace BK328 := Bb_ BK328 hb; replace HB := Hs_ HB hb; (try clear hb); (try clear hb2); (try clear hk); (try clear hi); obtain ⟨hcz55_0, hcz55_1, hcz55_2, hfz55_0, hfz55_1, hfz55_2⟩ := Bc3_ BK327) | (go_at_call 96; (with_reducible refine (impl_isBlock.calls _ _ l0_0 _ _ l0_1 _ _ l0_2 (rd l1_5 x60_2) true _ ?side1 ?side2 ?side3 ?side4 ?side5 ?side6 A50.out).mono ?_); (case side1 => exact Sc_ HR0_0 HB); (case side2 => exact HC0_0.out); (case side3 => exact Sc_ HR0_1 HB); (case side4 => exact HC0_1.out); (case side5 => exact Sc_ HR0_2 HB); (case side6 => exact HC0_2.out); rintro e w56 ⟨rfl, hb⟩; replace BK327 := Bb_ BK327 hb; replace BK328 := Bb_ BK328 hb; replace HB := Hs_ HB hb; (try clear hb); (try clear hb2); (try clear hk); (try clear hi))); try go_wp2_with (first | (go_at_call 102; (with_reducible refine (impl_isValue.calls _ _ l0_0 _ _ l0_1 _ _ l0_2 (rd l1_5 x60_2) true _ ?side1 ?side2 ?side3 ?side4 ?side5 ?side6 A47.out).mono ?_); (case side1 => exact Sc_ HR0_0 HB); (case side2 => exact HC0_0.out); (case side3 => exact Sc_ HR0_1 HB); (case side4 => exact HC0_1.out); (case side5 => exact Sc_ HR0_2 HB); (case side6 => exact HC0_2.out); rintro e w54 ⟨rfl, hb⟩; replace BK327 := Bb_ BK327 hb; replace BK328 := Bb_ BK328 hb; replace HB := Hs_ HB hb; (try clear hb); (try clear hb2); (try clear hk); (try clear hi); obtain ⟨hcz55_0, hcz55_1, hcz55_2, hfz55_0, hfz55_1, hfz55_2⟩ := Bc3_ BK327) | (go_at_call 96; (with_reducible refine (impl_isBlock.calls _ _ l0_0 _ _ l0_1 _ _ l0_2 (rd l1_5 x60_2) true _ ?side1 ?side2 ?side3 ?side4 ?side5 ?side6 A50.out).mono ?_); (case side1 => exact Sc_ HR0_0 HB); (case side2 => exact HC0_0.out); (case side3 => exact Sc_ HR0_1 HB); (case side4 => exact HC0_1.out); (case side5 => exact Sc_ HR0_2 HB); (case side6 => exact HC0_2.out); rintro e w56 ⟨rfl, hb⟩; replace BK327 := Bb_ BK327 hb; replace BK328 := Bb_ BK328 hb; replace HB := Hs_ HB hb; (try clear hb); (try clear hb2); (try clear hk); (try clear hi))))
             go_roundg k2
             case measure => have := HJ2.out; have := HK2.out; omega
             case rel => exact ⟨(wrap64 (x60_2 + 1)), Rr_, H', ⟨by have := HJ2.out; have := HK2.out; omega⟩, ⟨Bq_ BK327⟩, ⟨Bq_ BK328⟩, ⟨Hf_ HB⟩⟩
            ·replace c51 := Bool.eq_false_iff.mpr c51
             subst c51
             have H1 : (some false) = some r := by rw [if_neg (show ¬ (false = true) by decide)] at H; exact H
             clear H
             have H := H1
             clear H1
             obtain rfl := Option.some.inj H
             have p333 : 0 ≤ (x60_2 : Int) := of_decide_eq_true As_
             have q333 : x60_2 < (l1_5.length : Int) := of_decide_eq_true As_
             obtain ⟨ad333, e333, hx333_0⟩ := Kd.at_int HR1_5.out x60_2 p333 q333
             cases e333
             replace hx333_0 := (HB.out.cell (World.block_lt_of_cell? w _ hx333_0)).trans hx333_0
             replace p333 := eq_true p333
             replace q333 := eq_true q333
             have hnb57 := NB327_328.out
             have hnc57 := NB328_327.out
             obtain ⟨hcz58_0, hcz58_1, hcz58_2, hfz58_0, hfz58_1, hfz58_2⟩ := Bc3_ BK327
             go_wp2_with (first | (go_at_call 102; (with_reducible refine (impl_isValue.calls _ _ l0_0 _ _ l0_1 _ _ l0_2 (rd l1_5 x60_2) true _ ?side1 ?side2 ?side3 ?side4 ?side5 ?side6 A47.out).mono ?_); (case side1 => exact Sc_ HR0_0 HB); (case side2 => exact HC0_0.out); (case side3 => exact Sc_ HR0_1 HB); (case side4 => exact HC0_1.out); (case side5 => exact Sc_ HR0_2 HB); (case side6 => exact HC0_2.out); rintro e w59 ⟨rfl, hb⟩; replace BK327 := Bb_ BK327 hb; replace BK328 := Bb_ BK328 hb; replace HB := Hs_ HB hb; (try clear hb); (try clear hb2); (try clear hk); (try clear hi); obtain ⟨hcz60_0, hcz60_1, hcz60_2, hfz60_0, hfz60_1, hfz60_2⟩ := Bc3_ BK327) | (go_at_call 96; (with_reducible refine (impl_isBlock.calls _ _ l0_0 _ _ l0_1 _ _ l0_2 (rd l1_5 x60_2) false _ ?side1 ?side2 ?side3 ?side4 ?side5 ?side6 A50.out).mono ?_); (case side1 => exact Sc_ HR0_0 HB); (case side2 => exact HC0_0.out); (case side3 => exact Sc_ HR0_1 HB); (case side4 => exact HC0_1.out); (case side5 => exact Sc_ HR0_2 HB); (case side6 => exact HC0_2.out); rintro e w61 ⟨rfl, hb⟩; replace BK327 := Bb_ BK327 hb; replace BK328 := Bb_ BK328 hb; replace HB := Hs_ HB hb; (try clear hb); (try clear hb2); (try clear hk); (try clear hi)))
             repeat (go_quiet (first | (go_at_call 102; (with_reducible refine (impl_isValue.calls _ _ l0_0 _ _ l0_1 _ _ l0_2 (rd l1_5 x60_2) true _ ?side1 ?side2 ?side3 ?side4 ?side5 ?side6 A47.out).mono ?_); (case side1 => exact Sc_ HR0_0 HB); (case side2 => exact HC0_0.out); (case side3 => exact Sc_ HR0_1 HB); (case side4 => exact HC0_1.out); (case side5 => exact Sc_ HR0_2 HB); (case side6 => exact HC0_2.out); rintro e w59 ⟨rfl, hb⟩; replace BK327 := Bb_ BK327 hb; replace BK328 := Bb_ BK328 hb; replace HB := Hs_ HB hb; (try clear hb); (try clear hb2); (try clear hk); (try clear hi); obtain ⟨hcz60_0, hcz60_1, hcz60_2, hfz60_0, hfz60_1, hfz60_2⟩ := Bc3_ BK327) | (go_at_call 96; (with_reducible refine (impl_isBlock.calls _ _ l0_0 _ _ l0_1 _ _ l0_2 (rd l1_5 x60_2) false _ ?side1 ?side2 ?side3 ?side4 ?side5 ?side6 A50.out).mono ?_); (case side1 => exact Sc_ HR0_0 HB); (case side2 => exact HC0_0.out); (case side3 => exact Sc_ HR0_1 HB); (case side4 => exact HC0_1.out); (case side5 => exact Sc_ HR0_2 HB); (case side6 => exact HC0_2.out); rintro e w61 ⟨rfl, hb⟩; replace BK327 := Bb_ BK327 hb; replace BK328 := Bb_ BK328 hb; replace HB := Hs_ HB hb; (try clear hb); (try clear hb2); (try clear hk); (try clear hi))); try go_wp2_with (first | (go_at_call 102; (with_reducible refine (impl_isValue.calls _ _ l0_0 _ _ l0_1 _ _ l0_2 (rd l1_5 x60_2) true _ ?side1 ?side2 ?side3 ?side4 ?side5 ?side6 A47.out).mono ?_); (case side1 => exact Sc_ HR0_0 HB); (case side2 => exact HC0_0.out); (case side3 => exact Sc_ HR0_1 HB); (case side4 => exact HC0_1.out); (case side5 => exact Sc_ HR0_2 HB); (case side6 => exact HC0_2.out); rintro e w59 ⟨rfl, hb⟩; replace BK327 := Bb_ BK327 hb; replace BK328 := Bb_ BK328 hb; replace HB := Hs_ HB hb; (try clear hb); (try clear hb2); (try clear hk); (try clear hi); obtain ⟨hcz60_0, hcz60_1, hcz60_2, hfz60_0, hfz60_1, hfz60_2⟩ := Bc3_ BK327) | (go_at_call 96; (with_reducible refine (impl_isBlock.calls _ _ l0_0 _ _ l0_1 _ _ l0_2 (rd l1_5 x60_2) false _ ?side1 ?side2 ?side3 ?side4 ?side5 ?side6 A50.out).mono ?_); (case side1 => exact Sc_ HR0_0 HB); (case side2 => exact HC0_0.out); (case side3 => exact Sc_ HR0_1 HB); (case side4 => exact HC0_1.out); (case side5 => exact Sc_ HR0_2 HB); (case side6 => exact HC0_2.out); rintro e w61 ⟨rfl, hb⟩; replace BK327 := Bb_ BK327 hb; replace BK328 := Bb_ BK328 hb; replace HB := Hs_ HB hb; (try clear hb); (try clear hb2); (try clear hk); (try clear hi))))
             go_ret
             exact ⟨Re_, Hf_ HB⟩
           ·rw [if_neg c49] at H
            have c49b0 : decide (x5_2 ≤ x60_2) = false := decide_eq_false c49
            clear c49
            have H' := Aside0.mk H
            clear H
            have p333 : 0 ≤ (x60_2 : Int) := of_decide_eq_true As_
            have q333 : x60_2 < (l1_5.length : Int) := of_decide_eq_true As_
            obtain ⟨ad333, e333, hx333_0⟩ := Kd.at_int HR1_5.out x60_2 p333 q333
            cases e333
            replace hx333_0 := (HB.out.cell (World.block_lt_of_cell? w _ hx333_0)).trans hx333_0
            replace p333 := eq_true p333
            replace q333 := eq_true q333
            have hnb62 := NB327_328.out
            have hnc62 := NB328_327.out
            obtain ⟨hcz63_0, hcz63_1, hcz63_2, hfz63_0, hfz63_1, hfz63_2⟩ := Bc3_ BK327
            go_wp2_with (first | (go_at_call 102; (with_reducible refine (impl_isValue.calls _ _ l0_0 _ _ l0_1 _ _ l0_2 (rd l1_5 x60_2) true _ ?side1 ?side2 ?side3 ?side4 ?side5 ?side6 A47.out).mono ?_); (case side1 => exact Sc_ HR0_0 HB); (case side2 => exact HC0_0.out); (case side3 => exact Sc_ HR0_1 HB); (case side4 => exact HC0_1.out); (case side5 => exact Sc_ HR0_2 HB); (case side6 => exact HC0_2.out); rintro e w64 ⟨rfl, hb⟩; replace BK327 := Bb_ BK327 hb; replace BK328 := Bb_ BK328 hb; replace HB := Hs_ HB hb; (try clear hb); (try clear hb2); (try clear hk); (try clear hi)))
            repeat (go_quiet (first | (go_at_call 102; (with_reducible refine (impl_isValue.calls _ _ l0_0 _ _ l0_1 _ _ l0_2 (rd l1_5 x60_2) true _ ?side1 ?side2 ?side3 ?side4 ?side5 ?side6 A47.out).mono ?_); (case side1 => exact Sc_ HR0_0 HB); (case side2 => exact HC0_0.out); (case side3 => exact Sc_ HR0_1 HB); (case side4 => exact HC0_1.out); (case side5 => exact Sc_ HR0_2 HB); (case side6 => exact HC0_2.out); rintro e w64 ⟨rfl, hb⟩; replace BK327 := Bb_ BK327 hb; replace BK328 := Bb_ BK328 hb; replace HB := Hs_ HB hb; (try clear hb); (try clear hb2); (try clear hk); (try clear hi))); try go_wp2_with (first | (go_at_call 102; (with_reducible refine (impl_isValue.calls _ _ l0_0 _ _ l0_1 _ _ l0_2 (rd l1_5 x60_2) true _ ?side1 ?side2 ?side3 ?side4 ?side5 ?side6 A47.out).mono ?_); (case side1 => exact Sc_ HR0_0 HB); (case side2 => exact HC0_0.out); (case side3 => exact Sc_ HR0_1 HB); (case side4 => exact HC0_1.out); (case side5 => exact Sc_ HR0_2 HB); (case side6 => exact HC0_2.out); rintro e w64 ⟨rfl, hb⟩; replace BK327 := Bb_ BK327 hb; replace BK328 := Bb_ BK328 hb; replace HB := Hs_ HB hb; (try clear hb); (try clear hb2); (try clear hk); (try clear hi))))
            go_roundg k2
            case measure => have := HJ2.out; have := HK2.out; omega
            case rel => exact ⟨(wrap64 (x60_2 + 1)), Rr_, H', ⟨by have := HJ2.out; have := HK2.out; omega⟩, ⟨Bq_ BK327⟩, ⟨Bq_ BK328⟩, ⟨Hf_ HB⟩⟩
          ·replace c48 := Bool.eq_false_iff.mpr c48
           subst c48
           have H1 : (some false) = some r := by rw [if_neg (show ¬ (false = true) by decide)] at H; exact H
           clear H
           have H := H1
           clear H1
           obtain rfl := Option.some.inj H
           have p333 : 0 ≤ (x60_2 : Int) := of_decide_eq_true As_
           have q333 : x60_2 < (l1_5.length : Int) := of_decide_eq_true As_
           obtain ⟨ad333, e333, hx333_0⟩ := Kd.at_int HR1_5.out x60_2 p333 q333
           cases e333
           replace hx333_0 := (HB.out.cell (World.block_lt_of_cell? w _ hx333_0)).trans hx333_0
           replace p333 := eq_true p333
           replace q333 := eq_true q333
           have hnb65 := NB327_328.out
           have hnc65 := NB328_327.out
           obtain ⟨hcz66_0, hcz66_1, hcz66_2, hfz66_0, hfz66_1, hfz66_2⟩ := Bc3_ BK327
           go_wp2_with (first | (go_at_call 102; (with_reducible refine (impl_isValue.calls _ _ l0_0 _ _ l0_1 _ _ l0_2 (rd l1_5 x60_2) false _ ?side1 ?side2 ?side3 ?side4 ?side5 ?side6 A47.out).mono ?_); (case side1 => exact Sc_ HR0_0 HB); (case side2 => exact HC0_0.out); (case side3 => exact Sc_ HR0_1 HB); (case side4 => exact HC0_1.out); (case side5 => exact Sc_ HR0_2 HB); (case side6 => exact HC0_2.out); rintro e w67 ⟨rfl, hb⟩; replace BK327 := Bb_ BK327 hb; replace BK328 := Bb_ BK328 hb; replace HB := Hs_ HB hb; (try clear hb); (try clear hb2); (try clear hk); (try clear hi)))
           repeat (go_quiet (first | (go_at_call 102; (with_reducible refine (impl_isValue.calls _ _ l0_0 _ _ l0_1 _ _ l0_2 (rd l1_5 x60_2) false _ ?side1 ?side2 ?side3 ?side4 ?side5 ?side6 A47.out).mono ?_); (case side1 => exact Sc_ HR0_0 HB); (case side2 => exact HC0_0.out); (case side3 => exact Sc_ HR0_1 HB); (case side4 => exact HC0_1.out); (case side5 => exact Sc_ HR0_2 HB); (case side6 => exact HC0_2.out); rintro e w67 ⟨rfl, hb⟩; replace BK327 := Bb_ BK327 hb; replace BK328 := Bb_ BK328 hb; replace HB := Hs_ HB hb; (try clear hb); (try clear hb2); (try clear hk); (try clear hi))); try go_wp2_with (first | (go_at_call 102; (with_reducible refine (impl_isValue.calls _ _ l0_0 _ _ l0_1 _ _ l0_2 (rd l1_5 x60_2) false _ ?side1 ?side2 ?side3 ?side4 ?side5 ?side6 A47.out).mono ?_); (case side1 => exact Sc_ HR0_0 HB); (case side2 => exact HC0_0.out); (case side3 => exact Sc_ HR0_1 HB); (case side4 => exact HC0_1.out); (case side5 => exact Sc_ HR0_2 HB); (case side6 => exact HC0_2.out); rintro e w67 ⟨rfl, hb⟩; replace BK327 := Bb_ BK327 hb; replace BK328 := Bb_ BK328 hb; replace HB := Hs_ HB hb; (try clear hb); (try clear hb2); (try clear hk); (try clear hi))))
           go_ret
           exact ⟨Re_, Hf_ HB⟩
         ·rw [if_neg c46] at H
          have c46b0 : decide (x60_2 < x5_2) = false := decide_eq_false c46
          clear c46
          by_cases c68 : x60_2 ≥ x5_2
          ·rw [if_pos c68] at H
           have c68b0 : decide (x5_2 ≤ x60_2) = true := decide_eq_true c68
           clear c68
           replace H := Option.bind_eq_some_iff.mp H
           obtain ⟨t336, A690, H⟩ := H
           replace H : (if t336 = true then (impl_kidsOk.l1 k2 x5_2 l1_5 (l1_5.length : Int) (wrap64 (x60_2 + 1)) l0_0 l0_1 l0_2) else (some false)) = some r := H
           have A69 := Aside0.mk A690
           clear A690
           by_cases c70 : t336 = true
           ·subst c70
            have H1 : (impl_kidsOk.l1 k2 x5_2 l1_5 (l1_5.length : Int) (wrap64 (x60_2 + 1)) l0_0 l0_1 l0_2) = some r := by rw [if_pos rfl] at H; exact H
            clear H
            have H := H1
            clear H1
            have H' := Aside0.mk H
            clear H
            have p333 : 0 ≤ (x60_2 : Int) := of_decide_eq_true As_
            have q333 : x60_2 < (l1_5.length : Int) := of_decide_eq_true As_
            obtain ⟨ad333, e333, hx333_0⟩ := Kd.at_int HR1_5.out x60_2 p333 q333
            cases e333
            replace hx333_0 := (HB.out.cell (World.block_lt_of_cell? w _ hx333_0)).trans hx333_0
            replace p333 := eq_true p333
            replace q333 := eq_true q333
            have hnb71 := NB327_328.out
            have hnc71 := NB328_327.out
            obtain ⟨hcz72_0, hcz72_1, hcz72_2, hfz72_0, hfz72_1, hfz72_2⟩ := Bc3_ BK327
            go_wp2_with (first | (go_at_call 96; (with_reducible refine (impl_isBlock.calls _ _ l0_0 _ _ l0_1 _ _ l0_2 (rd l1_5 x60_2) true _ ?side1 ?side2 ?side3 ?side4 ?side5 ?side6 A69.out).mono ?_); (case side1 => exact Sc_ HR0_0 HB); (case side2 => exact HC0_0.out); (case side3 => exact Sc_ HR0_1 HB); (case side4 => exact HC0_1.out); (case side5 => exact Sc_ HR0_2 HB); (case side6 => exact HC0_2.out); rintro e w73 ⟨rfl, hb⟩; replace BK327 := Bb_ BK327 hb; replace BK328 := Bb_ BK328 hb; replace HB := Hs_ HB hb; (try clear hb); (try clear hb2); (try clear hk); (try clear hi)))
            repeat (go_quiet (first | (go_at_call 96; (with_reducible refine (impl_isBlock.calls _ _ l0_0 _ _ l0_1 _ _ l0_2 (rd l1_5 x60_2) true _ ?side1 ?side2 ?side3 ?side4 ?side5 ?side6 A69.out).mono ?_); (case side1 => exact Sc_ HR0_0 HB); (case side2 => exact HC0_0.out); (case side3 => exact Sc_ HR0_1 HB); (case side4 => exact HC0_1.out); (case side5 => exact Sc_ HR0_2 HB); (case side6 => exact HC0_2.out); rintro e w73 ⟨rfl, hb⟩; replace BK327 := Bb_ BK327 hb; replace BK328 := Bb_ BK328 hb; replace HB := Hs_ HB hb; (try clear hb); (try clear hb2); (try clear hk); (try clear hi))); try go_wp2_with (first | (go_at_call 96; (with_reducible refine (impl_isBlock.calls _ _ l0_0 _ _ l0_1 _ _ l0_2 (rd l1_5 x60_2) true _ ?side1 ?side2 ?side3 ?side4 ?side5 ?side6 A69.out).mono ?_); (case side1 => exact Sc_ HR0_0 HB); (case side2 => exact HC0_0.out); (case side3 => exact Sc_ HR0_1 HB); (case side4 => exact HC0_1.out); (case side5 => exact Sc_ HR0_2 HB); (case side6 => exact HC0_2.out); rintro e w73 ⟨rfl, hb⟩; replace BK327 := Bb_ BK327 hb; replace BK328 := Bb_ BK328 hb; replace HB := Hs_ HB hb; (try clear hb); (try clear hb2); (try clear hk); (try clear hi))))
            go_roundg k2
            case measure => have := HJ2.out; have := HK2.out; omega
            case rel => exact ⟨(wrap64 (x60_2 + 1)), Rr_, H', ⟨by have := HJ2.out; have := HK2.out; omega⟩, ⟨Bq_ BK327⟩, ⟨Bq_ BK328⟩, ⟨Hf_ HB⟩⟩
           ·replace c70 := Bool.eq_false_iff.mpr c70
            subst c70
            have H1 : (some false) = some r := by rw [if_neg (show ¬ (false = true) by decide)] at H; exact H
            clear H
            have H := H1
            clear H1
            obtain rfl := Option.some.inj H
            have p333 : 0 ≤ (x60_2 : Int) := of_decide_eq_true As_
            have q333 : x60_2 < (l1_5.length : Int) := of_decide_eq_true As_
            obtain ⟨ad333, e333, hx333_0⟩ := Kd.at_int HR1_5.out x60_2 p333 q333
            cases e333
            replace hx333_0 := (HB.out.cell (World.block_lt_of_cell? w _ hx333_0)).trans hx333_0
            replace p333 := eq_true p333
            replace q333 := eq_true q333
            have hnb74 := NB327_328.out
            have hnc74 := NB328_327.out
            obtain ⟨hcz75_0, hcz75_1, hcz75_2, hfz75_0, hfz75_1, hfz75_2⟩ := Bc3_ BK327
            go_wp2_with (first | (go_at_call 96; (with_reducible refine (impl_isBlock.calls _ _ l0_0 _ _ l0_1 _ _ l0_2 (rd l1_5 x60_2) false _ ?side1 ?side2 ?side3 ?side4 ?side5 ?side6 A69.out).mono ?_); (case side1 => exact Sc_ HR0_0 HB); (case side2 => exact HC0_0.out); (case side3 => exact Sc_ HR0_1 HB); (case side4 => exact HC0_1.out); (case side5 => exact Sc_ HR0_2 HB); (case side6 => exact HC0_2.out); rintro e w76 ⟨rfl, hb⟩; replace BK327 := Bb_ BK327 hb; replace BK328 := Bb_ BK328 hb; replace HB := Hs_ HB hb; (try clear hb); (try clear hb2); (try clear hk); (try clear hi)))
            repeat (go_quiet (first | (go_at_call 96; (with_reducible refine (impl_isBlock.calls _ _ l0_0 _ _ l0_1 _ _ l0_2 (rd l1_5 x60_2) false _ ?side1 ?side2 ?side3 ?side4 ?side5 ?side6 A69.out).mono ?_); (case side1 => exact Sc_ HR0_0 HB); (case side2 => exact HC0_0.out); (case side3 => exact Sc_ HR0_1 HB); (case side4 => exact HC0_1.out); (case side5 => exact Sc_ HR0_2 HB); (case side6 => exact HC0_2.out); rintro e w76 ⟨rfl, hb⟩; replace BK327 := Bb_ BK327 hb; replace BK328 := Bb_ BK328 hb; replace HB := Hs_ HB hb; (try clear hb); (try clear hb2); (try clear hk); (try clear hi))); try go_wp2_with (first | (go_at_call 96; (with_reducible refine (impl_isBlock.calls _ _ l0_0 _ _ l0_1 _ _ l0_2 (rd l1_5 x60_2) false _ ?side1 ?side2 ?side3 ?side4 ?side5 ?side6 A69.out).mono ?_); (case side1 => exact Sc_ HR0_0 HB); (case side2 => exact HC0_0.out); (case side3 => exact Sc_ HR0_1 HB); (case side4 => exact HC0_1.out); (case side5 => exact Sc_ HR0_2 HB); (case side6 => exact HC0_2.out); rintro e w76 ⟨rfl, hb⟩; replace BK327 := Bb_ BK327 hb; replace BK328 := Bb_ BK328 hb; replace HB := Hs_ HB hb; (try clear hb); (try clear hb2); (try clear hk); (try clear hi))))
            go_ret
            exact ⟨Re_, Hf_ HB⟩
          ·rw [if_neg c68] at H
           have c68b0 : decide (x5_2 ≤ x60_2) = false := decide_eq_false c68
           clear c68
           have H' := Aside0.mk H
           clear H
           have p333 : 0 ≤ (x60_2 : Int) := of_decide_eq_true As_
           have q333 : x60_2 < (l1_5.length : Int) := of_decide_eq_true As_
           obtain ⟨ad333, e333, hx333_0⟩ := Kd.at_int HR1_5.out x60_2 p333 q333
           cases e333
           replace hx333_0 := (HB.out.cell (World.block_lt_of_cell? w _ hx333_0)).trans hx333_0
           replace p333 := eq_true p333
           replace q333 := eq_true q333
           go_wp2
           repeat (go_quiet (fail); try go_wp2)
           go_roundg k2
           case measure => have := HJ2.out; have := HK2.out; omega
           case rel => exact ⟨(wrap64 (x60_2 + 1)), Rr_, H', ⟨by have := HJ2.out; have := HK2.out; omega⟩, ⟨Bq_ BK327⟩, ⟨Bq_ BK328⟩, ⟨Hf_ HB⟩⟩
        ·rw [if_neg c45] at H
         exact absurd H (by simp)
       ·rw [if_neg c44] at H
        exact absurd H (by simp)
      ·rw [if_neg c43] at H
       have c43b0 : decide (x60_2 < (l1_5.length : Int)) = false := decide_eq_false c43
       clear c43
       obtain rfl := Option.some.inj H
       go_wp2
       repeat (go_quiet (fail); try go_wp2)
       go_ret
       exact ⟨Re_, Hf_ HB⟩
   ·rw [if_neg c40] at H
    have c40b0 : ((l1_5.length : Int) == (wrap64 (x5_2 + x6_2))) = false := beq_eq_false_iff_ne.mpr c40
    have c40b1 : ((l1_5.length : Int) != (wrap64 (x5_2 + x6_2))) = true := bne_iff_ne.mpr c40
    obtain rfl := Option.some.inj H
    have hnb77 := NB328_327.out
    have hnc77 := NB327_328.out
    obtain ⟨hcz78_0, hcz78_1, hcz78_2, hcz78_3, hcz78_4, hcz78_5, hfz78_0, hfz78_1, hfz78_2, hfz78_3, hfz78_4, hfz78_5⟩ := Bc6_ BK328
    go_wp2
    repeat (go_quiet (fail); try go_wp2)
    go_ret
    exact ⟨Re_, Hf_ HB⟩

end Go.Proofs.Ytmbkcbgbienjoaa.PFnExactNodeOk
