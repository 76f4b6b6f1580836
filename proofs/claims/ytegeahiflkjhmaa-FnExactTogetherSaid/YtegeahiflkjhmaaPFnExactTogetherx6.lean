/- The machine side of the law FnExactTogether: for each function that it reaches, a Lean function and its contract. Written by a program of this session's over the kit's print. No condition. -/
import Derived.Test.YtegeahiflkjhmaaCmp
import Derived.Test.YtegeahiflkjhmaaPFnExactTogetherx0
import Derived.Test.YtegeahiflkjhmaaPFnExactTogetherx1
import Derived.Test.YtegeahiflkjhmaaPFnExactTogetherx2
import Derived.Test.YtegeahiflkjhmaaPFnExactTogetherx4
import Derived.Test.YtegeahiflkjhmaaPFnExactTogetherx5
namespace Go.Proofs.Ytegeahiflkjhmaa.PFnExactTogether
open Go.RowKit Go.Proofs.YtegeahiflkjhmaaW.PrintWords Go.Proofs.YtegeahiflkjhmaaW.PrintLast Go.Proofs.YtegeahiflkjhmaaW.PrintMore Go.Proofs.Ytegeahiflkjhmaa.Cmp
attribute [local go_sem] max2_int min2_int max_two min_two max_three min_three max_four min_four   -- for this text's walks alone
set_option linter.unusedVariables false
set_option linter.unusedSimpArgs false

/-! ### laws_FnExactTogether: function 5 -/
def laws_FnExactTogether.j0 : Nat → Bool → List ByteArray → List Int → List ByteArray → List Int → List ByteArray → List Int → List ByteArray → List Int → Option (Bool)
 | 0, _, _, _, _, _, _, _, _, _ => none
 | k + 1, x63, x214000, x214001, x215000, x215001, x236000, x236001, x257000, x257001 => if x63 = true then (some false) else ((laws_markEnv.f k x257000 x257001 1).bind fun bt279 => ((laws_heldEnv.f k bt279.2.1 bt279.2.2 1).bind fun t282 => (if t282 < 0 then (some false) else (if t282 = bt279.1 then ((laws_toEnv.f k x214000 x214001).bind fun bt283 => ((laws_toEnv.f k x215000 x215001).bind fun bt289 => ((impl_Together.f k bt283.1 bt283.2 bt289.1 bt289.2).bind fun bt295 => ((laws_eqEnv.f k bt295.1 bt295.2 x236000 x236001).bind fun t302 => (if t302 = true then ((laws_heldEnv.f k bt279.2.1 bt279.2.2 1).bind fun t303 => (if t303 < 0 then (some false) else (if t303 = bt279.1 then (some true) else (some false)))) else (some false)))))) else (some false)))))
def laws_FnExactTogether.f (k : Nat) (l0_0 : List ByteArray) (l0_1 : List Int) (l1_0 : List ByteArray) (l1_1 : List Int) : Option (Bool) := (laws_szEnv.f k l0_0 l0_1 1048576).bind fun t215 => (if t215 < 0 then (some true) else ((laws_szEnv.f k l1_0 l1_1 t215).bind fun t216 => (if t216 < 0 then (some true) else ((laws_toEnv.f k l0_0 l0_1).bind fun bt217 => ((laws_toEnv.f k l1_0 l1_1).bind fun bt223 => ((spec_Together.f k bt217.1 bt217.2 bt223.1 bt223.2).bind fun bt229 => ((laws_toEnv.f k l0_0 l0_1).bind fun bt236 => ((laws_toEnv.f k l1_0 l1_1).bind fun bt243 => ((impl_Together.f k bt236.1 bt236.2 bt243.1 bt243.2).bind fun bt250 => ((laws_eqEnv.f k bt250.1 bt250.2 bt229.1 bt229.2).bind fun t257 => (if t257 = true then ((laws_toEnv.f k l0_0 l0_1).bind fun bt258 => ((laws_eqEnv.f k bt236.1 bt236.2 bt258.1 bt258.2).bind fun t264 => (if t264 = true then ((laws_toEnv.f k l1_0 l1_1).bind fun bt265 => ((laws_eqEnv.f k bt243.1 bt243.2 bt265.1 bt265.2).bind fun t271 => (if t271 = true then ((laws_markEnv.f k bt236.1 bt236.2 1).bind fun bt272 => ((laws_markEnv.f k bt243.1 bt243.2 bt272.1).bind fun bt275 => (if bt275.1 < 0 then (laws_FnExactTogether.j0 k true l0_0 l0_1 l1_0 l1_1 bt229.1 bt229.2 bt250.1 bt250.2) else ((laws_eqEnv.f k bt250.1 bt250.2 bt229.1 bt229.2).bind fun t278 => (laws_FnExactTogether.j0 k (!t278) l0_0 l0_1 l1_0 l1_1 bt229.1 bt229.2 bt250.1 bt250.2))))) else (some false)))) else (some false)))) else (some false))))))))))))
theorem laws_FnExactTogether.mono_l : ∀ k, (∀ y0 y1 y2 y3 y4 y5 y6 y7 y8, LeO (laws_FnExactTogether.j0 k y0 y1 y2 y3 y4 y5 y6 y7 y8) (laws_FnExactTogether.j0 (k + 1) y0 y1 y2 y3 y4 y5 y6 y7 y8))
 | 0 => fun _ _ _ _ _ _ _ _ _ r h => by simp [laws_FnExactTogether.j0] at h
 | k + 1 => by
  have ih0 := laws_FnExactTogether.mono_l k
  ·intro y0 y1 y2 y3 y4 y5 y6 y7 y8
   unfold laws_FnExactTogether.j0
   repeat' first
   | (with_reducible exact ih0 _ _ _ _ _ _ _ _ _)
   | (with_reducible exact impl_Together.mono _ _ _ _ _)
   | (with_reducible exact laws_eqEnv.mono _ _ _ _ _)
   | (with_reducible exact laws_heldEnv.mono _ _ _ _)
   | (with_reducible exact laws_markEnv.mono _ _ _ _)
   | (with_reducible exact laws_szEnv.mono _ _ _ _)
   | (with_reducible exact laws_toEnv.mono _ _ _)
   | (with_reducible exact spec_Together.mono _ _ _ _ _)
   | (with_reducible exact LeO.refl _)
   | (with_reducible exact LeO.none _)
   | (with_reducible refine LeO.ite ?_ ?_)
   | (with_reducible refine LeO.bind ?_ (fun _ => ?_))
   | exact ih0 _ _ _ _ _ _ _ _ _
   | exact impl_Together.mono _ _ _ _ _
   | exact laws_eqEnv.mono _ _ _ _ _
   | exact laws_heldEnv.mono _ _ _ _
   | exact laws_markEnv.mono _ _ _ _
   | exact laws_szEnv.mono _ _ _ _
   | exact laws_toEnv.mono _ _ _
   | exact spec_Together.mono _ _ _ _ _
   | exact LeO.none _
   | refine LeO.ite ?_ ?_
   | refine LeO.bind ?_ (fun _ => ?_)
theorem laws_FnExactTogether.mono : ∀ a0 a1 a2 a3 k, LeO (laws_FnExactTogether.f k a0 a1 a2 a3) (laws_FnExactTogether.f (k + 1) a0 a1 a2 a3) := by
 intro a0 a1 a2 a3 k
 have ih0 := laws_FnExactTogether.mono_l k
 unfold laws_FnExactTogether.f
 repeat' first
   | (with_reducible exact ih0 _ _ _ _ _ _ _ _ _)
   | (with_reducible exact impl_Together.mono _ _ _ _ _)
   | (with_reducible exact laws_eqEnv.mono _ _ _ _ _)
   | (with_reducible exact laws_heldEnv.mono _ _ _ _)
   | (with_reducible exact laws_markEnv.mono _ _ _ _)
   | (with_reducible exact laws_szEnv.mono _ _ _ _)
   | (with_reducible exact laws_toEnv.mono _ _ _)
   | (with_reducible exact spec_Together.mono _ _ _ _ _)
   | (with_reducible exact LeO.refl _)
   | (with_reducible exact LeO.none _)
   | (with_reducible refine LeO.ite ?_ ?_)
   | (with_reducible refine LeO.bind ?_ (fun _ => ?_))
   | exact ih0 _ _ _ _ _ _ _ _ _
   | exact impl_Together.mono _ _ _ _ _
   | exact laws_eqEnv.mono _ _ _ _ _
   | exact laws_heldEnv.mono _ _ _ _
   | exact laws_markEnv.mono _ _ _ _
   | exact laws_szEnv.mono _ _ _ _
   | exact laws_toEnv.mono _ _ _
   | exact spec_Together.mono _ _ _ _ _
   | exact LeO.none _
   | refine LeO.ite ?_ ?_
   | refine LeO.bind ?_ (fun _ => ?_)
set_option maxHeartbeats 8000000 in
set_option maxRecDepth 100000 in
theorem laws_FnExactTogether.calls (k : Nat) (A0_0 : Option Addr) (c0_0 : Nat) (l0_0 : List ByteArray) (A0_1 : Option Addr) (c0_1 : Nat) (l0_1 : List Int) (A1_0 : Option Addr) (c1_0 : Nat) (l1_0 : List ByteArray) (A1_1 : Option Addr) (c1_1 : Nat) (l1_1 : List Int) (r : Bool) (w : World) (hr0_0 : Kd.C Kd.string w A0_0 l0_0.length l0_0) (hc0_0 : l0_0.length ≤ c0_0) (hr0_1 : Kd.C (Kd.int .i64) w A0_1 l0_1.length l0_1) (hc0_1 : l0_1.length ≤ c0_1) (hr1_0 : Kd.C Kd.string w A1_0 l1_0.length l1_0) (hc1_0 : l1_0.length ≤ c1_0) (hr1_1 : Kd.C (Kd.int .i64) w A1_1 l1_1.length l1_1) (hc1_1 : l1_1.length ≤ c1_1) (hlaw_ : Aside0 (r = true)) (h : laws_FnExactTogether.f k l0_0 l0_1 l1_0 l1_1 = some r) :
  Calls Try.prog 5 #[.agg #[.slice A0_0 l0_0.length c0_0, .slice A0_1 l0_1.length c0_1], .agg #[.slice A1_0 l1_0.length c1_0, .slice A1_1 l1_1.length c1_1]] w fun e w' => e = .returned (.bool r) ∧ Below w.heap.size w w' := by
 have hu25 := Try.underlying25
 have hu28 := Try.underlying28
 have HR0_0 := Aside0.mk hr0_0
 have HC0_0 := Aside0.mk hc0_0
 clear hr0_0 hc0_0
 have HR0_1 := Aside0.mk hr0_1
 have HC0_1 := Aside0.mk hc0_1
 clear hr0_1 hc0_1
 have HR1_0 := Aside0.mk hr1_0
 have HC1_0 := Aside0.mk hc1_0
 clear hr1_0 hc1_0
 have HR1_1 := Aside0.mk hr1_1
 have HC1_1 := Aside0.mk hc1_1
 clear hr1_1 hc1_1
 have HB := Aside0.mk (Below.refl w.heap.size w)
 have H : ((laws_szEnv.f k l0_0 l0_1 1048576).bind fun t215 => (if t215 < 0 then (some true) else ((laws_szEnv.f k l1_0 l1_1 t215).bind fun t216 => (if t216 < 0 then (some true) else ((laws_toEnv.f k l0_0 l0_1).bind fun bt217 => ((laws_toEnv.f k l1_0 l1_1).bind fun bt223 => ((spec_Together.f k bt217.1 bt217.2 bt223.1 bt223.2).bind fun bt229 => ((laws_toEnv.f k l0_0 l0_1).bind fun bt236 => ((laws_toEnv.f k l1_0 l1_1).bind fun bt243 => ((impl_Together.f k bt236.1 bt236.2 bt243.1 bt243.2).bind fun bt250 => ((laws_eqEnv.f k bt250.1 bt250.2 bt229.1 bt229.2).bind fun t257 => (if t257 = true then ((laws_toEnv.f k l0_0 l0_1).bind fun bt258 => ((laws_eqEnv.f k bt236.1 bt236.2 bt258.1 bt258.2).bind fun t264 => (if t264 = true then ((laws_toEnv.f k l1_0 l1_1).bind fun bt265 => ((laws_eqEnv.f k bt243.1 bt243.2 bt265.1 bt265.2).bind fun t271 => (if t271 = true then ((laws_markEnv.f k bt236.1 bt236.2 1).bind fun bt272 => ((laws_markEnv.f k bt243.1 bt243.2 bt272.1).bind fun bt275 => (if bt275.1 < 0 then (laws_FnExactTogether.j0 k true l0_0 l0_1 l1_0 l1_1 bt229.1 bt229.2 bt250.1 bt250.2) else ((laws_eqEnv.f k bt250.1 bt250.2 bt229.1 bt229.2).bind fun t278 => (laws_FnExactTogether.j0 k (!t278) l0_0 l0_1 l1_0 l1_1 bt229.1 bt229.2 bt250.1 bt250.2))))) else (some false)))) else (some false)))) else (some false))))))))))))) = some r := h
 clear h
 replace H := Option.bind_eq_some_iff.mp H
 obtain ⟨t215, A30, H⟩ := H
 replace H : (if t215 < 0 then (some true) else ((laws_szEnv.f k l1_0 l1_1 t215).bind fun t216 => (if t216 < 0 then (some true) else ((laws_toEnv.f k l0_0 l0_1).bind fun bt217 => ((laws_toEnv.f k l1_0 l1_1).bind fun bt223 => ((spec_Together.f k bt217.1 bt217.2 bt223.1 bt223.2).bind fun bt229 => ((laws_toEnv.f k l0_0 l0_1).bind fun bt236 => ((laws_toEnv.f k l1_0 l1_1).bind fun bt243 => ((impl_Together.f k bt236.1 bt236.2 bt243.1 bt243.2).bind fun bt250 => ((laws_eqEnv.f k bt250.1 bt250.2 bt229.1 bt229.2).bind fun t257 => (if t257 = true then ((laws_toEnv.f k l0_0 l0_1).bind fun bt258 => ((laws_eqEnv.f k bt236.1 bt236.2 bt258.1 bt258.2).bind fun t264 => (if t264 = true then ((laws_toEnv.f k l1_0 l1_1).bind fun bt265 => ((laws_eqEnv.f k bt243.1 bt243.2 bt265.1 bt265.2).bind fun t271 => (if t271 = true then ((laws_markEnv.f k bt236.1 bt236.2 1).bind fun bt272 => ((laws_markEnv.f k bt243.1 bt243.2 bt272.1).bind fun bt275 => (if bt275.1 < 0 then (laws_FnExactTogether.j0 k true l0_0 l0_1 l1_0 l1_1 bt229.1 bt229.2 bt250.1 bt250.2) else ((laws_eqEnv.f k bt250.1 bt250.2 bt229.1 bt229.2).bind fun t278 => (laws_FnExactTogether.j0 k (!t278) l0_0 l0_1 l1_0 l1_1 bt229.1 bt229.2 bt250.1 bt250.2))))) else (some false)))) else (some false)))) else (some false)))))))))))) = some r := H
 have A3 := Aside0.mk A30
 clear A30
 by_cases c4 : t215 < 0
 ·rw [if_pos c4] at H
  have c4b0 : decide (t215 < 0) = true := decide_eq_true c4
  clear c4
  obtain rfl := Option.some.inj H
  go_enter Try.func5, Try.ntmps5
  go_wp2_with (first | ((with_reducible refine gate_dst (N := 2) rfl ?_); refine box_event ?hg (N := 2) ?hd (cs := #[.slice A0_0 l0_0.length c0_0, .slice A0_1 l0_1.length c0_1]) (t := 25) ?hr ?_; (case hd => rfl); (case hg => rfl); (case hr => first | (go_simp; done) | (go_simp; rfl)); intro gb213 hg w5 hbox hb; have BK213 := Aside0.mk (hbox); have GW213 := Hg_ HB hg; have GE213 := GW213; replace HB := Hs_ HB hb; clear hb hbox hg) | ((with_reducible refine gate_dst (N := 3) rfl ?_); refine box_event ?hg (N := 3) ?hd (cs := #[.slice A1_0 l1_0.length c1_0, .slice A1_1 l1_1.length c1_1]) (t := 25) ?hr ?_; (case hd => rfl); (case hg => rfl); (case hr => first | (go_simp; done) | (go_simp; rfl)); intro gb214 hg w6 hbox hb; have BK214 := Aside0.mk (hbox); have GW214 := Hg_ HB hg; have GE214 := GW214; have NB213_214 := Bl_ BK213 hg; have NB214_213 := Bm_ NB213_214; replace BK213 := Bb_ BK213 hb; replace HB := Hs_ HB hb; clear hb hbox hg; have hnb7 := NB213_214.out; have hnc7 := NB214_213.out; obtain ⟨hcz8_0, hcz8_1, hfz8_0, hfz8_1⟩ := Bc2_ BK213) | ((with_reducible refine gate_callee (f := 13) rfl ?_); refine goesL_ (some 16) rfl rfl Try.func13 (by kernel_rfl) rfl #[.agg #[.slice A0_0 l0_0.length c0_0, .slice A0_1 l0_1.length c0_1], .int .i64 1048576] rfl Mp_ ?_; (with_reducible refine (laws_szEnv.calls k _ _ l0_0 _ _ l0_1 1048576 t215 _ ?side1 ?side2 ?side3 ?side4 A3.out).mono ?_); (case side1 => exact Sc_ HR0_0 HB); (case side2 => exact HC0_0.out); (case side3 => exact Sc_ HR0_1 HB); (case side4 => exact HC0_1.out); rintro e w9 ⟨rfl, hb⟩; refine ⟨_, rfl, ?_⟩; replace BK213 := Bb_ BK213 hb; replace BK214 := Bb_ BK214 hb; replace HB := Hs_ HB hb; (try clear hb); (try clear hb2); (try clear hk); (try clear hi)))
  go_ret
  exact ⟨Re_, Hf_ HB⟩
 ·rw [if_neg c4] at H
  have c4b0 : decide (t215 < 0) = false := decide_eq_false c4
  clear c4
  replace H := Option.bind_eq_some_iff.mp H
  obtain ⟨t216, A100, H⟩ := H
  replace H : (if t216 < 0 then (some true) else ((laws_toEnv.f k l0_0 l0_1).bind fun bt217 => ((laws_toEnv.f k l1_0 l1_1).bind fun bt223 => ((spec_Together.f k bt217.1 bt217.2 bt223.1 bt223.2).bind fun bt229 => ((laws_toEnv.f k l0_0 l0_1).bind fun bt236 => ((laws_toEnv.f k l1_0 l1_1).bind fun bt243 => ((impl_Together.f k bt236.1 bt236.2 bt243.1 bt243.2).bind fun bt250 => ((laws_eqEnv.f k bt250.1 bt250.2 bt229.1 bt229.2).bind fun t257 => (if t257 = true then ((laws_toEnv.f k l0_0 l0_1).bind fun bt258 => ((laws_eqEnv.f k bt236.1 bt236.2 bt258.1 bt258.2).bind fun t264 => (if t264 = true then ((laws_toEnv.f k l1_0 l1_1).bind fun bt265 => ((laws_eqEnv.f k bt243.1 bt243.2 bt265.1 bt265.2).bind fun t271 => (if t271 = true then ((laws_markEnv.f k bt236.1 bt236.2 1).bind fun bt272 => ((laws_markEnv.f k bt243.1 bt243.2 bt272.1).bind fun bt275 => (if bt275.1 < 0 then (laws_FnExactTogether.j0 k true l0_0 l0_1 l1_0 l1_1 bt229.1 bt229.2 bt250.1 bt250.2) else ((laws_eqEnv.f k bt250.1 bt250.2 bt229.1 bt229.2).bind fun t278 => (laws_FnExactTogether.j0 k (!t278) l0_0 l0_1 l1_0 l1_1 bt229.1 bt229.2 bt250.1 bt250.2))))) else (some false)))) else (some false)))) else (some false)))))))))) = some r := H
  have A10 := Aside0.mk A100
  clear A100
  by_cases c11 : t216 < 0
  ·rw [if_pos c11] at H
   have c11b0 : decide (t216 < 0) = true := decide_eq_true c11
   clear c11
   obtain rfl := Option.some.inj H
   go_enter Try.func5, Try.ntmps5
   go_wp2_with (first | ((with_reducible refine gate_dst (N := 2) rfl ?_); refine box_event ?hg (N := 2) ?hd (cs := #[.slice A0_0 l0_0.length c0_0, .slice A0_1 l0_1.length c0_1]) (t := 25) ?hr ?_; (case hd => rfl); (case hg => rfl); (case hr => first | (go_simp; done) | (go_simp; rfl)); intro gb213 hg w12 hbox hb; have BK213 := Aside0.mk (hbox); have GW213 := Hg_ HB hg; have GE213 := GW213; replace HB := Hs_ HB hb; clear hb hbox hg) | ((with_reducible refine gate_dst (N := 3) rfl ?_); refine box_event ?hg (N := 3) ?hd (cs := #[.slice A1_0 l1_0.length c1_0, .slice A1_1 l1_1.length c1_1]) (t := 25) ?hr ?_; (case hd => rfl); (case hg => rfl); (case hr => first | (go_simp; done) | (go_simp; rfl)); intro gb214 hg w13 hbox hb; have BK214 := Aside0.mk (hbox); have GW214 := Hg_ HB hg; have GE214 := GW214; have NB213_214 := Bl_ BK213 hg; have NB214_213 := Bm_ NB213_214; replace BK213 := Bb_ BK213 hb; replace HB := Hs_ HB hb; clear hb hbox hg; have hnb14 := NB213_214.out; have hnc14 := NB214_213.out; obtain ⟨hcz15_0, hcz15_1, hfz15_0, hfz15_1⟩ := Bc2_ BK213) | ((with_reducible refine gate_callee (f := 13) rfl ?_); refine goesL_ (some 16) rfl rfl Try.func13 (by kernel_rfl) rfl #[.agg #[.slice A0_0 l0_0.length c0_0, .slice A0_1 l0_1.length c0_1], .int .i64 1048576] rfl Mp_ ?_; (with_reducible refine (laws_szEnv.calls k _ _ l0_0 _ _ l0_1 1048576 t215 _ ?side1 ?side2 ?side3 ?side4 A3.out).mono ?_); (case side1 => exact Sc_ HR0_0 HB); (case side2 => exact HC0_0.out); (case side3 => exact Sc_ HR0_1 HB); (case side4 => exact HC0_1.out); rintro e w16 ⟨rfl, hb⟩; refine ⟨_, rfl, ?_⟩; replace BK213 := Bb_ BK213 hb; replace BK214 := Bb_ BK214 hb; replace HB := Hs_ HB hb; (try clear hb); (try clear hb2); (try clear hk); (try clear hi); obtain ⟨hcz17_0, hcz17_1, hfz17_0, hfz17_1⟩ := Bc2_ BK214) | ((with_reducible refine gate_callee (f := 13) rfl ?_); refine goesL_ (some 21) rfl rfl Try.func13 (by kernel_rfl) rfl #[.agg #[.slice A1_0 l1_0.length c1_0, .slice A1_1 l1_1.length c1_1], .int .i64 t215] rfl Mp_ ?_; (with_reducible refine (laws_szEnv.calls k _ _ l1_0 _ _ l1_1 t215 t216 _ ?side1 ?side2 ?side3 ?side4 A10.out).mono ?_); (case side1 => exact Sc_ HR1_0 HB); (case side2 => exact HC1_0.out); (case side3 => exact Sc_ HR1_1 HB); (case side4 => exact HC1_1.out); rintro e w18 ⟨rfl, hb⟩; refine ⟨_, rfl, ?_⟩; replace BK213 := Bb_ BK213 hb; replace BK214 := Bb_ BK214 hb; replace HB := Hs_ HB hb; (try clear hb); (try clear hb2); (try clear hk); (try clear hi)))
   go_ret
   exact ⟨Re_, Hf_ HB⟩
  ·rw [if_neg c11] at H
   have c11b0 : decide (t216 < 0) = false := decide_eq_false c11
   clear c11
   replace H := Option.bind_eq_some_iff.mp H
   obtain ⟨⟨t217, t220⟩, A190, H⟩ := H
   replace H : ((laws_toEnv.f k l1_0 l1_1).bind fun bt223 => ((spec_Together.f k t217 t220 bt223.1 bt223.2).bind fun bt229 => ((laws_toEnv.f k l0_0 l0_1).bind fun bt236 => ((laws_toEnv.f k l1_0 l1_1).bind fun bt243 => ((impl_Together.f k bt236.1 bt236.2 bt243.1 bt243.2).bind fun bt250 => ((laws_eqEnv.f k bt250.1 bt250.2 bt229.1 bt229.2).bind fun t257 => (if t257 = true then ((laws_toEnv.f k l0_0 l0_1).bind fun bt258 => ((laws_eqEnv.f k bt236.1 bt236.2 bt258.1 bt258.2).bind fun t264 => (if t264 = true then ((laws_toEnv.f k l1_0 l1_1).bind fun bt265 => ((laws_eqEnv.f k bt243.1 bt243.2 bt265.1 bt265.2).bind fun t271 => (if t271 = true then ((laws_markEnv.f k bt236.1 bt236.2 1).bind fun bt272 => ((laws_markEnv.f k bt243.1 bt243.2 bt272.1).bind fun bt275 => (if bt275.1 < 0 then (laws_FnExactTogether.j0 k true l0_0 l0_1 l1_0 l1_1 bt229.1 bt229.2 bt250.1 bt250.2) else ((laws_eqEnv.f k bt250.1 bt250.2 bt229.1 bt229.2).bind fun t278 => (laws_FnExactTogether.j0 k (!t278) l0_0 l0_1 l1_0 l1_1 bt229.1 bt229.2 bt250.1 bt250.2))))) else (some false)))) else (some false)))) else (some false)))))))) = some r := H
   have A19 := Aside0.mk A190
   clear A190
   replace H := Option.bind_eq_some_iff.mp H
   obtain ⟨⟨t223, t226⟩, A200, H⟩ := H
   replace H : ((spec_Together.f k t217 t220 t223 t226).bind fun bt229 => ((laws_toEnv.f k l0_0 l0_1).bind fun bt236 => ((laws_toEnv.f k l1_0 l1_1).bind fun bt243 => ((impl_Together.f k bt236.1 bt236.2 bt243.1 bt243.2).bind fun bt250 => ((laws_eqEnv.f k bt250.1 bt250.2 bt229.1 bt229.2).bind fun t257 => (if t257 = true then ((laws_toEnv.f k l0_0 l0_1).bind fun bt258 => ((laws_eqEnv.f k bt236.1 bt236.2 bt258.1 bt258.2).bind fun t264 => (if t264 = true then ((laws_toEnv.f k l1_0 l1_1).bind fun bt265 => ((laws_eqEnv.f k bt243.1 bt243.2 bt265.1 bt265.2).bind fun t271 => (if t271 = true then ((laws_markEnv.f k bt236.1 bt236.2 1).bind fun bt272 => ((laws_markEnv.f k bt243.1 bt243.2 bt272.1).bind fun bt275 => (if bt275.1 < 0 then (laws_FnExactTogether.j0 k true l0_0 l0_1 l1_0 l1_1 bt229.1 bt229.2 bt250.1 bt250.2) else ((laws_eqEnv.f k bt250.1 bt250.2 bt229.1 bt229.2).bind fun t278 => (laws_FnExactTogether.j0 k (!t278) l0_0 l0_1 l1_0 l1_1 bt229.1 bt229.2 bt250.1 bt250.2))))) else (some false)))) else (some false)))) else (some false))))))) = some r := H
   have A20 := Aside0.mk A200
   clear A200
   replace H := Option.bind_eq_some_iff.mp H
   obtain ⟨⟨t229, t232⟩, A210, H⟩ := H
   replace H : ((laws_toEnv.f k l0_0 l0_1).bind fun bt236 => ((laws_toEnv.f k l1_0 l1_1).bind fun bt243 => ((impl_Together.f k bt236.1 bt236.2 bt243.1 bt243.2).bind fun bt250 => ((laws_eqEnv.f k bt250.1 bt250.2 t229 t232).bind fun t257 => (if t257 = true then ((laws_toEnv.f k l0_0 l0_1).bind fun bt258 => ((laws_eqEnv.f k bt236.1 bt236.2 bt258.1 bt258.2).bind fun t264 => (if t264 = true then ((laws_toEnv.f k l1_0 l1_1).bind fun bt265 => ((laws_eqEnv.f k bt243.1 bt243.2 bt265.1 bt265.2).bind fun t271 => (if t271 = true then ((laws_markEnv.f k bt236.1 bt236.2 1).bind fun bt272 => ((laws_markEnv.f k bt243.1 bt243.2 bt272.1).bind fun bt275 => (if bt275.1 < 0 then (laws_FnExactTogether.j0 k true l0_0 l0_1 l1_0 l1_1 t229 t232 bt250.1 bt250.2) else ((laws_eqEnv.f k bt250.1 bt250.2 t229 t232).bind fun t278 => (laws_FnExactTogether.j0 k (!t278) l0_0 l0_1 l1_0 l1_1 t229 t232 bt250.1 bt250.2))))) else (some false)))) else (some false)))) else (some false)))))) = some r := H
   have A21 := Aside0.mk A210
   clear A210
   replace H := Option.bind_eq_some_iff.mp H
   obtain ⟨⟨t236, t239⟩, A220, H⟩ := H
   replace H : ((laws_toEnv.f k l1_0 l1_1).bind fun bt243 => ((impl_Together.f k t236 t239 bt243.1 bt243.2).bind fun bt250 => ((laws_eqEnv.f k bt250.1 bt250.2 t229 t232).bind fun t257 => (if t257 = true then ((laws_toEnv.f k l0_0 l0_1).bind fun bt258 => ((laws_eqEnv.f k t236 t239 bt258.1 bt258.2).bind fun t264 => (if t264 = true then ((laws_toEnv.f k l1_0 l1_1).bind fun bt265 => ((laws_eqEnv.f k bt243.1 bt243.2 bt265.1 bt265.2).bind fun t271 => (if t271 = true then ((laws_markEnv.f k t236 t239 1).bind fun bt272 => ((laws_markEnv.f k bt243.1 bt243.2 bt272.1).bind fun bt275 => (if bt275.1 < 0 then (laws_FnExactTogether.j0 k true l0_0 l0_1 l1_0 l1_1 t229 t232 bt250.1 bt250.2) else ((laws_eqEnv.f k bt250.1 bt250.2 t229 t232).bind fun t278 => (laws_FnExactTogether.j0 k (!t278) l0_0 l0_1 l1_0 l1_1 t229 t232 bt250.1 bt250.2))))) else (some false)))) else (some false)))) else (some false))))) = some r := H
   have A22 := Aside0.mk A220
   clear A220
   replace H := Option.bind_eq_some_iff.mp H
   obtain ⟨⟨t243, t246⟩, A230, H⟩ := H
   replace H : ((impl_Together.f k t236 t239 t243 t246).bind fun bt250 => ((laws_eqEnv.f k bt250.1 bt250.2 t229 t232).bind fun t257 => (if t257 = true then ((laws_toEnv.f k l0_0 l0_1).bind fun bt258 => ((laws_eqEnv.f k t236 t239 bt258.1 bt258.2).bind fun t264 => (if t264 = true then ((laws_toEnv.f k l1_0 l1_1).bind fun bt265 => ((laws_eqEnv.f k t243 t246 bt265.1 bt265.2).bind fun t271 => (if t271 = true then ((laws_markEnv.f k t236 t239 1).bind fun bt272 => ((laws_markEnv.f k t243 t246 bt272.1).bind fun bt275 => (if bt275.1 < 0 then (laws_FnExactTogether.j0 k true l0_0 l0_1 l1_0 l1_1 t229 t232 bt250.1 bt250.2) else ((laws_eqEnv.f k bt250.1 bt250.2 t229 t232).bind fun t278 => (laws_FnExactTogether.j0 k (!t278) l0_0 l0_1 l1_0 l1_1 t229 t232 bt250.1 bt250.2))))) else (some false)))) else (some false)))) else (some false)))) = some r := H
   have A23 := Aside0.mk A230
   clear A230
   replace H := Option.bind_eq_some_iff.mp H
   obtain ⟨⟨t250, t253⟩, A240, H⟩ := H
   replace H : ((laws_eqEnv.f k t250 t253 t229 t232).bind fun t257 => (if t257 = true then ((laws_toEnv.f k l0_0 l0_1).bind fun bt258 => ((laws_eqEnv.f k t236 t239 bt258.1 bt258.2).bind fun t264 => (if t264 = true then ((laws_toEnv.f k l1_0 l1_1).bind fun bt265 => ((laws_eqEnv.f k t243 t246 bt265.1 bt265.2).bind fun t271 => (if t271 = true then ((laws_markEnv.f k t236 t239 1).bind fun bt272 => ((laws_markEnv.f k t243 t246 bt272.1).bind fun bt275 => (if bt275.1 < 0 then (laws_FnExactTogether.j0 k true l0_0 l0_1 l1_0 l1_1 t229 t232 t250 t253) else ((laws_eqEnv.f k t250 t253 t229 t232).bind fun t278 => (laws_FnExactTogether.j0 k (!t278) l0_0 l0_1 l1_0 l1_1 t229 t232 t250 t253))))) else (some false)))) else (some false)))) else (some false))) = some r := H
   have A24 := Aside0.mk A240
   clear A240
   replace H := Option.bind_eq_some_iff.mp H
   obtain ⟨t257, A250, H⟩ := H
   replace H : (if t257 = true then ((laws_toEnv.f k l0_0 l0_1).bind fun bt258 => ((laws_eqEnv.f k t236 t239 bt258.1 bt258.2).bind fun t264 => (if t264 = true then ((laws_toEnv.f k l1_0 l1_1).bind fun bt265 => ((laws_eqEnv.f k t243 t246 bt265.1 bt265.2).bind fun t271 => (if t271 = true then ((laws_markEnv.f k t236 t239 1).bind fun bt272 => ((laws_markEnv.f k t243 t246 bt272.1).bind fun bt275 => (if bt275.1 < 0 then (laws_FnExactTogether.j0 k true l0_0 l0_1 l1_0 l1_1 t229 t232 t250 t253) else ((laws_eqEnv.f k t250 t253 t229 t232).bind fun t278 => (laws_FnExactTogether.j0 k (!t278) l0_0 l0_1 l1_0 l1_1 t229 t232 t250 t253))))) else (some false)))) else (some false)))) else (some false)) = some r := H
   have A25 := Aside0.mk A250
   clear A250
   by_cases c26 : t257 = true
   ·subst c26
    have H1 : ((laws_toEnv.f k l0_0 l0_1).bind fun bt258 => ((laws_eqEnv.f k t236 t239 bt258.1 bt258.2).bind fun t264 => (if t264 = true then ((laws_toEnv.f k l1_0 l1_1).bind fun bt265 => ((laws_eqEnv.f k t243 t246 bt265.1 bt265.2).bind fun t271 => (if t271 = true then ((laws_markEnv.f k t236 t239 1).bind fun bt272 => ((laws_markEnv.f k t243 t246 bt272.1).bind fun bt275 => (if bt275.1 < 0 then (laws_FnExactTogether.j0 k true l0_0 l0_1 l1_0 l1_1 t229 t232 t250 t253) else ((laws_eqEnv.f k t250 t253 t229 t232).bind fun t278 => (laws_FnExactTogether.j0 k (!t278) l0_0 l0_1 l1_0 l1_1 t229 t232 t250 t253))))) else (some false)))) else (some false)))) = some r := by rw [if_pos rfl] at H; exact H
    clear H
    have H := H1
    clear H1
    replace H := Option.bind_eq_some_iff.mp H
    obtain ⟨⟨t258, t261⟩, A270, H⟩ := H
    replace H : ((laws_eqEnv.f k t236 t239 t258 t261).bind fun t264 => (if t264 = true then ((laws_toEnv.f k l1_0 l1_1).bind fun bt265 => ((laws_eqEnv.f k t243 t246 bt265.1 bt265.2).bind fun t271 => (if t271 = true then ((laws_markEnv.f k t236 t239 1).bind fun bt272 => ((laws_markEnv.f k t243 t246 bt272.1).bind fun bt275 => (if bt275.1 < 0 then (laws_FnExactTogether.j0 k true l0_0 l0_1 l1_0 l1_1 t229 t232 t250 t253) else ((laws_eqEnv.f k t250 t253 t229 t232).bind fun t278 => (laws_FnExactTogether.j0 k (!t278) l0_0 l0_1 l1_0 l1_1 t229 t232 t250 t253))))) else (some false)))) else (some false))) = some r := H
    have A27 := Aside0.mk A270
    clear A270
    replace H := Option.bind_eq_some_iff.mp H
    obtain ⟨t264, A280, H⟩ := H
    replace H : (if t264 = true then ((laws_toEnv.f k l1_0 l1_1).bind fun bt265 => ((laws_eqEnv.f k t243 t246 bt265.1 bt265.2).bind fun t271 => (if t271 = true then ((laws_markEnv.f k t236 t239 1).bind fun bt272 => ((laws_markEnv.f k t243 t246 bt272.1).bind fun bt275 => (if bt275.1 < 0 then (laws_FnExactTogether.j0 k true l0_0 l0_1 l1_0 l1_1 t229 t232 t250 t253) else ((laws_eqEnv.f k t250 t253 t229 t232).bind fun t278 => (laws_FnExactTogether.j0 k (!t278) l0_0 l0_1 l1_0 l1_1 t229 t232 t250 t253))))) else (some false)))) else (some false)) = some r := H
    have A28 := Aside0.mk A280
    clear A280
    by_cases c29 : t264 = true
    ·subst c29
     have H1 : ((laws_toEnv.f k l1_0 l1_1).bind fun bt265 => ((laws_eqEnv.f k t243 t246 bt265.1 bt265.2).bind fun t271 => (if t271 = true then ((laws_markEnv.f k t236 t239 1).bind fun bt272 => ((laws_markEnv.f k t243 t246 bt272.1).bind fun bt275 => (if bt275.1 < 0 then (laws_FnExactTogether.j0 k true l0_0 l0_1 l1_0 l1_1 t229 t232 t250 t253) else ((laws_eqEnv.f k t250 t253 t229 t232).bind fun t278 => (laws_FnExactTogether.j0 k (!t278) l0_0 l0_1 l1_0 l1_1 t229 t232 t250 t253))))) else (some false)))) = some r := by rw [if_pos rfl] at H; exact H
     clear H
     have H := H1
     clear H1
     replace H := Option.bind_eq_some_iff.mp H
     obtain ⟨⟨t265, t268⟩, A300, H⟩ := H
     replace H : ((laws_eqEnv.f k t243 t246 t265 t268).bind fun t271 => (if t271 = true then ((laws_markEnv.f k t236 t239 1).bind fun bt272 => ((laws_markEnv.f k t243 t246 bt272.1).bind fun bt275 => (if bt275.1 < 0 then (laws_FnExactTogether.j0 k true l0_0 l0_1 l1_0 l1_1 t229 t232 t250 t253) else ((laws_eqEnv.f k t250 t253 t229 t232).bind fun t278 => (laws_FnExactTogether.j0 k (!t278) l0_0 l0_1 l1_0 l1_1 t229 t232 t250 t253))))) else (some false))) = some r := H
     have A30 := Aside0.mk A300
     clear A300
     replace H := Option.bind_eq_some_iff.mp H
     obtain ⟨t271, A310, H⟩ := H
     replace H : (if t271 = true then ((laws_markEnv.f k t236 t239 1).bind fun bt272 => ((laws_markEnv.f k t243 t246 bt272.1).bind fun bt275 => (if bt275.1 < 0 then (laws_FnExactTogether.j0 k true l0_0 l0_1 l1_0 l1_1 t229 t232 t250 t253) else ((laws_eqEnv.f k t250 t253 t229 t232).bind fun t278 => (laws_FnExactTogether.j0 k (!t278) l0_0 l0_1 l1_0 l1_1 t229 t232 t250 t253))))) else (some false)) = some r := H
     have A31 := Aside0.mk A310
     clear A310
     by_cases c32 : t271 = true
     ·subst c32
      have H1 : ((laws_markEnv.f k t236 t239 1).bind fun bt272 => ((laws_markEnv.f k t243 t246 bt272.1).bind fun bt275 => (if bt275.1 < 0 then (laws_FnExactTogether.j0 k true l0_0 l0_1 l1_0 l1_1 t229 t232 t250 t253) else ((laws_eqEnv.f k t250 t253 t229 t232).bind fun t278 => (laws_FnExactTogether.j0 k (!t278) l0_0 l0_1 l1_0 l1_1 t229 t232 t250 t253))))) = some r := by rw [if_pos rfl] at H; exact H
      clear H
      have H := H1
      clear H1
      replace H := Option.bind_eq_some_iff.mp H
      obtain ⟨⟨t272, t273, t274⟩, A330, H⟩ := H
      replace H : ((laws_markEnv.f k t243 t246 t272).bind fun bt275 => (if bt275.1 < 0 then (laws_FnExactTogether.j0 k true l0_0 l0_1 l1_0 l1_1 t229 t232 t250 t253) else ((laws_eqEnv.f k t250 t253 t229 t232).bind fun t278 => (laws_FnExactTogether.j0 k (!t278) l0_0 l0_1 l1_0 l1_1 t229 t232 t250 t253)))) = some r := H
      have A33 := Aside0.mk A330
      clear A330
      replace H := Option.bind_eq_some_iff.mp H
      obtain ⟨⟨t275, t276, t277⟩, A340, H⟩ := H
      replace H : (if t275 < 0 then (laws_FnExactTogether.j0 k true l0_0 l0_1 l1_0 l1_1 t229 t232 t250 t253) else ((laws_eqEnv.f k t250 t253 t229 t232).bind fun t278 => (laws_FnExactTogether.j0 k (!t278) l0_0 l0_1 l1_0 l1_1 t229 t232 t250 t253))) = some r := H
      have A34 := Aside0.mk A340
      clear A340
      have HC35 := Aside0.mk H
      clear H
      go_enter Try.func5, Try.ntmps5
      try go_wp2_with (first | ((with_reducible refine gate_dst (N := 2) rfl ?_); refine box_event ?hg (N := 2) ?hd (cs := #[.slice A0_0 l0_0.length c0_0, .slice A0_1 l0_1.length c0_1]) (t := 25) ?hr ?_; (case hd => rfl); (case hg => rfl); (case hr => first | (go_simp; done) | (go_simp; rfl)); intro gb213 hg w36 hbox hb; have BK213 := Aside0.mk (hbox); have GW213 := Hg_ HB hg; have GE213 := GW213; replace HB := Hs_ HB hb; clear hb hbox hg) | ((with_reducible refine gate_dst (N := 3) rfl ?_); refine box_event ?hg (N := 3) ?hd (cs := #[.slice A1_0 l1_0.length c1_0, .slice A1_1 l1_1.length c1_1]) (t := 25) ?hr ?_; (case hd => rfl); (case hg => rfl); (case hr => first | (go_simp; done) | (go_simp; rfl)); intro gb214 hg w37 hbox hb; have BK214 := Aside0.mk (hbox); have GW214 := Hg_ HB hg; have GE214 := GW214; have NB213_214 := Bl_ BK213 hg; have NB214_213 := Bm_ NB213_214; replace BK213 := Bb_ BK213 hb; replace HB := Hs_ HB hb; clear hb hbox hg; have hnb38 := NB213_214.out; have hnc38 := NB214_213.out; obtain ⟨hcz39_0, hcz39_1, hfz39_0, hfz39_1⟩ := Bc2_ BK213) | ((with_reducible refine gate_callee (f := 13) rfl ?_); refine goesL_ (some 16) rfl rfl Try.func13 (by kernel_rfl) rfl #[.agg #[.slice A0_0 l0_0.length c0_0, .slice A0_1 l0_1.length c0_1], .int .i64 1048576] rfl Mp_ ?_; (with_reducible refine (laws_szEnv.calls k _ _ l0_0 _ _ l0_1 1048576 t215 _ ?side1 ?side2 ?side3 ?side4 A3.out).mono ?_); (case side1 => exact Sc_ HR0_0 HB); (case side2 => exact HC0_0.out); (case side3 => exact Sc_ HR0_1 HB); (case side4 => exact HC0_1.out); rintro e w40 ⟨rfl, hb⟩; refine ⟨_, rfl, ?_⟩; replace BK213 := Bb_ BK213 hb; replace BK214 := Bb_ BK214 hb; replace HB := Hs_ HB hb; (try clear hb); (try clear hb2); (try clear hk); (try clear hi); obtain ⟨hcz41_0, hcz41_1, hfz41_0, hfz41_1⟩ := Bc2_ BK214) | ((with_reducible refine gate_callee (f := 13) rfl ?_); refine goesL_ (some 21) rfl rfl Try.func13 (by kernel_rfl) rfl #[.agg #[.slice A1_0 l1_0.length c1_0, .slice A1_1 l1_1.length c1_1], .int .i64 t215] rfl Mp_ ?_; (with_reducible refine (laws_szEnv.calls k _ _ l1_0 _ _ l1_1 t215 t216 _ ?side1 ?side2 ?side3 ?side4 A10.out).mono ?_); (case side1 => exact Sc_ HR1_0 HB); (case side2 => exact HC1_0.out); (case side3 => exact Sc_ HR1_1 HB); (case side4 => exact HC1_1.out); rintro e w42 ⟨rfl, hb⟩; refine ⟨_, rfl, ?_⟩; replace BK213 := Bb_ BK213 hb; replace BK214 := Bb_ BK214 hb; replace HB := Hs_ HB hb; (try clear hb); (try clear hb2); (try clear hk); (try clear hi)))
      replace BK213 := Aside0.mk (blk_drew BK213.out); replace BK214 := Aside0.mk (blk_drew BK214.out); replace HB := Aside0.mk (below_drew1 HB.out)
      refine start_ (n := 7) (S := fun w' => w'.cell? ⟨gb213, 0, none⟩ = some (.slice A0_0 l0_0.length c0_0) ∧ w'.cell? ⟨gb213, 1, none⟩ = some (.slice A0_1 l0_1.length c0_1) ∧ w'.cell? ⟨gb214, 0, none⟩ = some (.slice A1_0 l1_0.length c1_0) ∧ w'.cell? ⟨gb214, 1, none⟩ = some (.slice A1_1 l1_1.length c1_1)) (ds := []) #[false, false, false, false, false, false, false] (by kernel_rfl) rfl rfl ⟨(blk_cell BK213.out 0).trans rfl, (blk_cell BK213.out 1).trans rfl, (blk_cell BK214.out 0).trans rfl, (blk_cell BK214.out 1).trans rfl⟩ (fun hHeld => ?_)
      generalize w42.drew = w43 at BK213 BK214 HB hHeld ⊢
      refine take_ (i := 0) (N := some 24) (v := ?_) (a' := ?_) #[true, false, false, false, false, false, false] rfl rfl (by kernel_rfl) (fun _ _ _ h => h) (Or.inl ⟨by rfl, ?_⟩) hHeld ?_ ?_
      rotate_left
      ·rintro w' ⟨s0, s1, s2, s3⟩
       go_simp
       with_reducible rfl
      rotate_left
      ·simp only [Act.put, List.setIfInBounds_toArray, List.set_cons_zero, List.set_cons_succ, i64_w, i32_w]
       rfl
      refine take_ (i := 2) (N := some 26) (v := ?_) (a' := ?_) #[true, false, true, false, false, false, false] rfl rfl (by kernel_rfl) (fun _ _ _ h => h) (Or.inl ⟨by rfl, ?_⟩) hHeld ?_ ?_
      rotate_left
      ·rintro w' ⟨s0, s1, s2, s3⟩
       go_simp
       with_reducible rfl
      rotate_left
      ·simp only [Act.put, List.setIfInBounds_toArray, List.set_cons_zero, List.set_cons_succ, i64_w, i32_w]
       rfl
      refine join_ (σ := Value × Value × Value × Value × Value × Value × Nat) 1 #[true, true, true, true, true, true, false] (fun s_ => [(25, .agg #[s_.1, s_.2.1]), (27, .agg #[s_.2.2.1, s_.2.2.2.1]), (28, .agg #[s_.2.2.2.2.1, s_.2.2.2.2.2.1]), (6, .pointer (some ⟨s_.2.2.2.2.2.2, 0, none⟩))]) (fun s_ w' => (w'.cell? ⟨gb213, 0, none⟩ = some (.slice A0_0 l0_0.length c0_0) ∧ w'.cell? ⟨gb213, 1, none⟩ = some (.slice A0_1 l0_1.length c0_1) ∧ w'.cell? ⟨gb214, 0, none⟩ = some (.slice A1_0 l1_0.length c1_0) ∧ w'.cell? ⟨gb214, 1, none⟩ = some (.slice A1_1 l1_1.length c1_1)) ∧ (Kd.R Kd.string 9 w' w.heap.size (fun k_ => some k_ ≠ (s_.2.2.1 : Value).ownBlock ∧ some k_ ≠ (s_.2.2.2.2.1 : Value).ownBlock) s_.1 t217) ∧ (Kd.R (Kd.int .i64) 3 w' w.heap.size (fun k_ => some k_ ≠ (s_.2.2.2.1 : Value).ownBlock ∧ some k_ ≠ (s_.2.2.2.2.2.1 : Value).ownBlock) s_.2.1 t220) ∧ (Kd.R Kd.string 9 w' w.heap.size (fun k_ => some k_ ≠ (s_.1 : Value).ownBlock ∧ some k_ ≠ (s_.2.2.2.2.1 : Value).ownBlock) s_.2.2.1 t223) ∧ (Kd.R (Kd.int .i64) 3 w' w.heap.size (fun k_ => some k_ ≠ (s_.2.1 : Value).ownBlock ∧ some k_ ≠ (s_.2.2.2.2.2.1 : Value).ownBlock) s_.2.2.2.1 t226) ∧ (Kd.R Kd.string 9 w' w.heap.size (fun k_ => some k_ ≠ (s_.1 : Value).ownBlock ∧ some k_ ≠ (s_.2.2.1 : Value).ownBlock) s_.2.2.2.2.1 t229) ∧ (Kd.R (Kd.int .i64) 3 w' w.heap.size (fun k_ => some k_ ≠ (s_.2.1 : Value).ownBlock ∧ some k_ ≠ (s_.2.2.2.1 : Value).ownBlock) s_.2.2.2.2.2.1 t232) ∧ (w'.heap[gb213]? = some (.cells #[.slice A0_0 l0_0.length c0_0, .slice A0_1 l0_1.length c0_1] 25 (0, 0))) ∧ (w'.heap[gb214]? = some (.cells #[.slice A1_0 l1_0.length c1_0, .slice A1_1 l1_1.length c1_1] 25 (0, 0))) ∧ (w'.heap[s_.2.2.2.2.2.2]? = some (.cells #[.slice none 0 0, .slice none 0 0] 28 (0, 0))) ∧ (w.heap.size ≤ s_.2.2.2.2.2.2) ∧ (w.heap.size ≤ s_.2.2.2.2.2.2) ∧ (gb213 ≠ s_.2.2.2.2.2.2) ∧ (s_.2.2.2.2.2.2 ≠ gb213) ∧ (gb214 ≠ s_.2.2.2.2.2.2) ∧ (s_.2.2.2.2.2.2 ≠ gb214) ∧ (Below w.heap.size w w')) ?_ ?_
      rotate_left
      ·intro hCont
       refine two_ (i := 1) (j := 5) (Ni := some 25) (Nj := some 6) #[true, true, true, false, false, false, false] #[true, false, true, false, false, true, false] rfl rfl rfl rfl (by kernel_rfl) (by decide) (by decide) (fun K hK => ?_) (fun K hK => ?_)
       ·skip
        refine goes_ Try.func15 (by kernel_rfl) rfl #[.agg #[.slice A0_0 l0_0.length c0_0, .slice A0_1 l0_1.length c0_1]] (by rfl) rfl rfl Mp_ ?_
        with_reducible refine (laws_toEnv.calls k _ _ l0_0 _ _ l0_1 t217 t220 _ ?side1 ?side2 ?side3 ?side4 A19.out).mono ?_
        (case side1 => exact Sc_ HR0_0 HB)
        (case side2 => exact HC0_0.out)
        (case side3 => exact Sc_ HR0_1 HB)
        (case side4 => exact HC0_1.out)
        rintro e w44 ⟨v218, v221, rfl, ho0, ho1, hb⟩
        refine ⟨_, rfl, ?_⟩
        have HO219 := Aside0.mk (Kd.R_lower ho0 (below_size (Hf_ HB))); have HO222 := Aside0.mk (Kd.R_lower ho1 (below_size (Hf_ HB))); replace BK213 := Bb_ BK213 hb; replace BK214 := Bb_ BK214 hb; replace HB := Hs_ HB hb
        (try clear hb)
        (try clear hb2)
        (try clear hk)
        (try clear hi)
        (try clear ho0)
        (try clear ho1)
        refine hK.out _ _ ⟨(blk_cell BK213.out 0).trans rfl, (blk_cell BK213.out 1).trans rfl, (blk_cell BK214.out 0).trans rfl, (blk_cell BK214.out 1).trans rfl⟩ (fun hHeld => ?_)
        clear hK K
        refine norm_ (a' := ?_) ?_ ?_
        rotate_left
        ·show Act.put _ (some 25) _ = _
         simp only [Act.put, List.setIfInBounds_toArray, List.set_cons_zero, List.set_cons_succ, i64_w, i32_w]
         rfl
        refine two_ (i := 3) (j := 5) (Ni := some 27) (Nj := some 6) #[true, true, true, true, false, false, false] #[true, true, true, false, false, true, false] rfl rfl rfl rfl (by kernel_rfl) (by decide) (by decide) (fun K hK => ?_) (fun K hK => ?_)
        ·skip
         refine goes_ Try.func15 (by kernel_rfl) rfl #[.agg #[.slice A1_0 l1_0.length c1_0, .slice A1_1 l1_1.length c1_1]] (by rfl) rfl rfl Mp_ ?_
         with_reducible refine (laws_toEnv.calls k _ _ l1_0 _ _ l1_1 t223 t226 _ ?side1 ?side2 ?side3 ?side4 A20.out).mono ?_
         (case side1 => exact Sc_ HR1_0 HB)
         (case side2 => exact HC1_0.out)
         (case side3 => exact Sc_ HR1_1 HB)
         (case side4 => exact HC1_1.out)
         rintro e w45 ⟨v224, v227, rfl, ho0, ho1, hb⟩
         refine ⟨_, rfl, ?_⟩
         have HO225 := Aside0.mk (Kd.R_lower (Kd.R_new' ho0 (Kd.R_lt (Rq_ HO219))) (below_size (Hf_ HB))); have HO228 := Aside0.mk (Kd.R_lower (Kd.R_new' ho1 (Kd.R_lt (Rq_ HO222))) (below_size (Hf_ HB))); replace HO219 := Rl_ HO219 ho0 hb; replace HO222 := Rl_ HO222 ho1 hb; replace BK213 := Bb_ BK213 hb; replace BK214 := Bb_ BK214 hb; replace HB := Hs_ HB hb
         (try clear hb)
         (try clear hb2)
         (try clear hk)
         (try clear hi)
         (try clear ho0)
         (try clear ho1)
         obtain ⟨Ao46, co46, eo46⟩ := Kd.R_slice HO219.out
         (first | subst eo46 | (injection eo46 with f1_ f2_ f3_; have f4_ := f1_.symm; have f5_ := f3_.symm; clear f1_ f2_ f3_; subst f4_; subst f5_))
         obtain ⟨Ao47, co47, eo47⟩ := Kd.R_slice HO222.out
         (first | subst eo47 | (injection eo47 with f1_ f2_ f3_; have f4_ := f1_.symm; have f5_ := f3_.symm; clear f1_ f2_ f3_; subst f4_; subst f5_))
         obtain ⟨Ao48, co48, eo48⟩ := Kd.R_slice HO225.out
         (first | subst eo48 | (injection eo48 with f1_ f2_ f3_; have f4_ := f1_.symm; have f5_ := f3_.symm; clear f1_ f2_ f3_; subst f4_; subst f5_))
         obtain ⟨Ao49, co49, eo49⟩ := Kd.R_slice HO228.out
         (first | subst eo49 | (injection eo49 with f1_ f2_ f3_; have f4_ := f1_.symm; have f5_ := f3_.symm; clear f1_ f2_ f3_; subst f4_; subst f5_))
         refine hK.out _ _ ⟨(blk_cell BK213.out 0).trans rfl, (blk_cell BK213.out 1).trans rfl, (blk_cell BK214.out 0).trans rfl, (blk_cell BK214.out 1).trans rfl⟩ (fun hHeld => ?_)
         clear hK K
         refine norm_ (a' := ?_) ?_ ?_
         rotate_left
         ·show Act.put _ (some 27) _ = _
          simp only [Act.put, List.setIfInBounds_toArray, List.set_cons_zero, List.set_cons_succ, i64_w, i32_w]
          rfl
         refine two_ (i := 4) (j := 5) (Ni := some 28) (Nj := some 6) #[true, true, true, true, true, false, false] #[true, true, true, true, false, true, false] rfl rfl rfl rfl (by kernel_rfl) (by decide) (by decide) (fun K hK => ?_) (fun K hK => ?_)
         ·skip
          refine goes_ Try.func22 (by kernel_rfl) rfl #[.agg #[.slice Ao46 t217.length co46, .slice Ao47 t220.length co47], .agg #[.slice Ao48 t223.length co48, .slice Ao49 t226.length co49]] (by rfl) rfl rfl Mp_ ?_
          with_reducible refine (spec_Together.calls k _ _ t217 _ _ t220 _ _ t223 _ _ t226 t229 t232 _ ?side1 ?side2 ?side3 ?side4 ?side5 ?side6 ?side7 ?side8 A21.out).mono ?_
          (case side1 => exact Cq_ (Kd.R_reads' HO219.out).2.2)
          (case side2 => exact (Kd.R_reads' HO219.out).2.1)
          (case side3 => exact Cq_ (Kd.R_reads' HO222.out).2.2)
          (case side4 => exact (Kd.R_reads' HO222.out).2.1)
          (case side5 => exact Cq_ (Kd.R_reads' HO225.out).2.2)
          (case side6 => exact (Kd.R_reads' HO225.out).2.1)
          (case side7 => exact Cq_ (Kd.R_reads' HO228.out).2.2)
          (case side8 => exact (Kd.R_reads' HO228.out).2.1)
          rintro e w50 ⟨v230, v233, rfl, ho0, ho1, hb⟩
          refine ⟨_, rfl, ?_⟩
          have HO231 := Aside0.mk (Kd.R_lower (Kd.R_new' (Kd.R_new' ho0 (Kd.R_lt (Rq_ HO219))) (Kd.R_lt (Rq_ HO225))) (below_size (Hf_ HB))); have HO234 := Aside0.mk (Kd.R_lower (Kd.R_new' (Kd.R_new' ho1 (Kd.R_lt (Rq_ HO222))) (Kd.R_lt (Rq_ HO228))) (below_size (Hf_ HB))); replace HO219 := Rl_ HO219 ho0 hb; replace HO222 := Rl_ HO222 ho1 hb; replace HO225 := Rl_ HO225 ho0 hb; replace HO228 := Rl_ HO228 ho1 hb; replace BK213 := Bb_ BK213 hb; replace BK214 := Bb_ BK214 hb; replace HB := Hs_ HB hb
          (try clear hb)
          (try clear hb2)
          (try clear hk)
          (try clear hi)
          (try clear ho0)
          (try clear ho1)
          refine hK.out _ _ ⟨(blk_cell BK213.out 0).trans rfl, (blk_cell BK213.out 1).trans rfl, (blk_cell BK214.out 0).trans rfl, (blk_cell BK214.out 1).trans rfl⟩ (fun hHeld => ?_)
          clear hK K
          refine norm_ (a' := ?_) ?_ ?_
          rotate_left
          ·show Act.put _ (some 28) _ = _
           simp only [Act.put, List.setIfInBounds_toArray, List.set_cons_zero, List.set_cons_succ, i64_w, i32_w]
           rfl
          refine one_ (i := 5) (N := some 6) #[true, true, true, true, true, true, false] rfl rfl (by kernel_rfl) (by decide) (fun K hK => ?_)
          refine box_step ?hg (N := 6) ?hd (cs := #[.slice none 0 0, .slice none 0 0]) (t := 28) ?hr ?_; (case hd => rfl); (case hg => rfl); (case hr => first | (go_simp; done) | (go_simp; rfl))
          intro gb235 hg w51 hbox hb
          have BK235 := Aside0.mk (hbox); have GW235 := Hg_ HB hg; have GE235 := GW235; have NB213_235 := Bl_ BK213 hg; have NB235_213 := Bm_ NB213_235; have NB214_235 := Bl_ BK214 hg; have NB235_214 := Bm_ NB214_235; replace HO219 := Rb_ HO219 hb; replace HO222 := Rb_ HO222 hb; replace HO225 := Rb_ HO225 hb; replace HO228 := Rb_ HO228 hb; replace HO231 := Rb_ HO231 hb; replace HO234 := Rb_ HO234 hb; replace BK213 := Bb_ BK213 hb; replace BK214 := Bb_ BK214 hb; replace HB := Hs_ HB hb
          clear hb hbox hg
          refine hK.out _ _ ⟨(blk_cell BK213.out 0).trans rfl, (blk_cell BK213.out 1).trans rfl, (blk_cell BK214.out 0).trans rfl, (blk_cell BK214.out 1).trans rfl⟩ (fun hHeld => ?_)
          clear hK K
          refine norm_ (a' := ?_) ?_ ?_
          rotate_left
          ·show Act.put _ (some 6) _ = _
           simp only [Act.put, List.setIfInBounds_toArray, List.set_cons_zero, List.set_cons_succ, i64_w, i32_w]
           rfl
          exact norm_ (by simp only [putAll, Act.put, List.setIfInBounds_toArray, List.set_cons_zero, List.set_cons_succ]) (hCont (.slice Ao46 t217.length co46, .slice Ao47 t220.length co47, .slice Ao48 t223.length co48, .slice Ao49 t226.length co49, v230, v233, gb235) _ ⟨hHeld, (Rm_ HO219 (fun _ hk => ⟨hk.1.2, hk.2⟩)), (Rm_ HO222 (fun _ hk => ⟨hk.1.2, hk.2⟩)), (Rm_ HO225 (fun _ hk => ⟨hk.1.2, hk.2⟩)), (Rm_ HO228 (fun _ hk => ⟨hk.1.2, hk.2⟩)), (Rm_ HO231 (fun _ hk => ⟨hk.1.2, hk.2⟩)), (Rm_ HO234 (fun _ hk => ⟨hk.1.2, hk.2⟩)), (Bq_ BK213), (Bq_ BK214), (Bq_ BK235), GW235.out, GE235.out, NB213_235.out, NB235_213.out, NB214_235.out, NB235_214.out, (Hf_ HB)⟩)
         ·skip
          refine box_step ?hg (N := 6) ?hd (cs := #[.slice none 0 0, .slice none 0 0]) (t := 28) ?hr ?_; (case hd => rfl); (case hg => rfl); (case hr => first | (go_simp; done) | (go_simp; rfl))
          intro gb235 hg w46 hbox hb
          have BK235 := Aside0.mk (hbox); have GW235 := Hg_ HB hg; have GE235 := GW235; have NB213_235 := Bl_ BK213 hg; have NB235_213 := Bm_ NB213_235; have NB214_235 := Bl_ BK214 hg; have NB235_214 := Bm_ NB214_235; replace HO219 := Rb_ HO219 hb; replace HO222 := Rb_ HO222 hb; replace HO225 := Rb_ HO225 hb; replace HO228 := Rb_ HO228 hb; replace BK213 := Bb_ BK213 hb; replace BK214 := Bb_ BK214 hb; replace HB := Hs_ HB hb
          clear hb hbox hg
          obtain ⟨Ao47, co47, eo47⟩ := Kd.R_slice HO219.out
          (first | subst eo47 | (injection eo47 with f1_ f2_ f3_; have f4_ := f1_.symm; have f5_ := f3_.symm; clear f1_ f2_ f3_; subst f4_; subst f5_))
          obtain ⟨Ao48, co48, eo48⟩ := Kd.R_slice HO222.out
          (first | subst eo48 | (injection eo48 with f1_ f2_ f3_; have f4_ := f1_.symm; have f5_ := f3_.symm; clear f1_ f2_ f3_; subst f4_; subst f5_))
          obtain ⟨Ao49, co49, eo49⟩ := Kd.R_slice HO225.out
          (first | subst eo49 | (injection eo49 with f1_ f2_ f3_; have f4_ := f1_.symm; have f5_ := f3_.symm; clear f1_ f2_ f3_; subst f4_; subst f5_))
          obtain ⟨Ao50, co50, eo50⟩ := Kd.R_slice HO228.out
          (first | subst eo50 | (injection eo50 with f1_ f2_ f3_; have f4_ := f1_.symm; have f5_ := f3_.symm; clear f1_ f2_ f3_; subst f4_; subst f5_))
          refine hK.out _ _ ⟨(blk_cell BK213.out 0).trans rfl, (blk_cell BK213.out 1).trans rfl, (blk_cell BK214.out 0).trans rfl, (blk_cell BK214.out 1).trans rfl⟩ (fun hHeld => ?_)
          clear hK K
          refine norm_ (a' := ?_) ?_ ?_
          rotate_left
          ·show Act.put _ (some 6) _ = _
           simp only [Act.put, List.setIfInBounds_toArray, List.set_cons_zero, List.set_cons_succ, i64_w, i32_w]
           rfl
          refine one_ (i := 4) (N := some 28) #[true, true, true, true, true, true, false] rfl rfl (by kernel_rfl) (by decide) (fun K hK => ?_)
          refine goes_ Try.func22 (by kernel_rfl) rfl #[.agg #[.slice Ao47 t217.length co47, .slice Ao48 t220.length co48], .agg #[.slice Ao49 t223.length co49, .slice Ao50 t226.length co50]] (by rfl) rfl rfl Mp_ ?_
          with_reducible refine (spec_Together.calls k _ _ t217 _ _ t220 _ _ t223 _ _ t226 t229 t232 _ ?side1 ?side2 ?side3 ?side4 ?side5 ?side6 ?side7 ?side8 A21.out).mono ?_
          (case side1 => exact Cq_ (Kd.R_reads' HO219.out).2.2)
          (case side2 => exact (Kd.R_reads' HO219.out).2.1)
          (case side3 => exact Cq_ (Kd.R_reads' HO222.out).2.2)
          (case side4 => exact (Kd.R_reads' HO222.out).2.1)
          (case side5 => exact Cq_ (Kd.R_reads' HO225.out).2.2)
          (case side6 => exact (Kd.R_reads' HO225.out).2.1)
          (case side7 => exact Cq_ (Kd.R_reads' HO228.out).2.2)
          (case side8 => exact (Kd.R_reads' HO228.out).2.1)
          rintro e w51 ⟨v230, v233, rfl, ho0, ho1, hb⟩
          refine ⟨_, rfl, ?_⟩
          have HO231 := Aside0.mk (Kd.R_lower (Kd.R_new' (Kd.R_new' ho0 (Kd.R_lt (Rq_ HO219))) (Kd.R_lt (Rq_ HO225))) (below_size (Hf_ HB))); have HO234 := Aside0.mk (Kd.R_lower (Kd.R_new' (Kd.R_new' ho1 (Kd.R_lt (Rq_ HO222))) (Kd.R_lt (Rq_ HO228))) (below_size (Hf_ HB))); replace HO219 := Rl_ HO219 ho0 hb; replace HO222 := Rl_ HO222 ho1 hb; replace HO225 := Rl_ HO225 ho0 hb; replace HO228 := Rl_ HO228 ho1 hb; replace BK213 := Bb_ BK213 hb; replace BK214 := Bb_ BK214 hb; replace BK235 := Bb_ BK235 hb; replace HB := Hs_ HB hb
          (try clear hb)
          (try clear hb2)
          (try clear hk)
          (try clear hi)
          (try clear ho0)
          (try clear ho1)
          refine hK.out _ _ ⟨(blk_cell BK213.out 0).trans rfl, (blk_cell BK213.out 1).trans rfl, (blk_cell BK214.out 0).trans rfl, (blk_cell BK214.out 1).trans rfl⟩ (fun hHeld => ?_)
          clear hK K
          refine norm_ (a' := ?_) ?_ ?_
          rotate_left
          ·show Act.put _ (some 28) _ = _
           simp only [Act.put, List.setIfInBounds_toArray, List.set_cons_zero, List.set_cons_succ, i64_w, i32_w]
           rfl
          exact norm_ (by simp only [putAll, Act.put, List.setIfInBounds_toArray, List.set_cons_zero, List.set_cons_succ]) (hCont (.slice Ao47 t217.length co47, .slice Ao48 t220.length co48, .slice Ao49 t223.length co49, .slice Ao50 t226.length co50, v230, v233, gb235) _ ⟨hHeld, (Rm_ HO219 (fun _ hk => ⟨hk.1.2, hk.2⟩)), (Rm_ HO222 (fun _ hk => ⟨hk.1.2, hk.2⟩)), (Rm_ HO225 (fun _ hk => ⟨hk.1.2, hk.2⟩)), (Rm_ HO228 (fun _ hk => ⟨hk.1.2, hk.2⟩)), (Rm_ HO231 (fun _ hk => ⟨hk.1.2, hk.2⟩)), (Rm_ HO234 (fun _ hk => ⟨hk.1.2, hk.2⟩)), (Bq_ BK213), (Bq_ BK214), (Bq_ BK235), GW235.out, GE235.out, NB213_235.out, NB235_213.out, NB214_235.out, NB235_214.out, (Hf_ HB)⟩)
        ·skip
         refine box_step ?hg (N := 6) ?hd (cs := #[.slice none 0 0, .slice none 0 0]) (t := 28) ?hr ?_; (case hd => rfl); (case hg => rfl); (case hr => first | (go_simp; done) | (go_simp; rfl))
         intro gb235 hg w45 hbox hb
         have BK235 := Aside0.mk (hbox); have GW235 := Hg_ HB hg; have GE235 := GW235; have NB213_235 := Bl_ BK213 hg; have NB235_213 := Bm_ NB213_235; have NB214_235 := Bl_ BK214 hg; have NB235_214 := Bm_ NB214_235; replace HO219 := Rb_ HO219 hb; replace HO222 := Rb_ HO222 hb; replace BK213 := Bb_ BK213 hb; replace BK214 := Bb_ BK214 hb; replace HB := Hs_ HB hb
         clear hb hbox hg
         refine hK.out _ _ ⟨(blk_cell BK213.out 0).trans rfl, (blk_cell BK213.out 1).trans rfl, (blk_cell BK214.out 0).trans rfl, (blk_cell BK214.out 1).trans rfl⟩ (fun hHeld => ?_)
         clear hK K
         refine norm_ (a' := ?_) ?_ ?_
         rotate_left
         ·show Act.put _ (some 6) _ = _
          simp only [Act.put, List.setIfInBounds_toArray, List.set_cons_zero, List.set_cons_succ, i64_w, i32_w]
          rfl
         refine one_ (i := 3) (N := some 27) #[true, true, true, true, false, true, false] rfl rfl (by kernel_rfl) (by decide) (fun K hK => ?_)
         refine goes_ Try.func15 (by kernel_rfl) rfl #[.agg #[.slice A1_0 l1_0.length c1_0, .slice A1_1 l1_1.length c1_1]] (by rfl) rfl rfl Mp_ ?_
         with_reducible refine (laws_toEnv.calls k _ _ l1_0 _ _ l1_1 t223 t226 _ ?side1 ?side2 ?side3 ?side4 A20.out).mono ?_
         (case side1 => exact Sc_ HR1_0 HB)
         (case side2 => exact HC1_0.out)
         (case side3 => exact Sc_ HR1_1 HB)
         (case side4 => exact HC1_1.out)
         rintro e w46 ⟨v224, v227, rfl, ho0, ho1, hb⟩
         refine ⟨_, rfl, ?_⟩
         have HO225 := Aside0.mk (Kd.R_lower (Kd.R_new' ho0 (Kd.R_lt (Rq_ HO219))) (below_size (Hf_ HB))); have HO228 := Aside0.mk (Kd.R_lower (Kd.R_new' ho1 (Kd.R_lt (Rq_ HO222))) (below_size (Hf_ HB))); replace HO219 := Rl_ HO219 ho0 hb; replace HO222 := Rl_ HO222 ho1 hb; replace BK213 := Bb_ BK213 hb; replace BK214 := Bb_ BK214 hb; replace BK235 := Bb_ BK235 hb; replace HB := Hs_ HB hb
         (try clear hb)
         (try clear hb2)
         (try clear hk)
         (try clear hi)
         (try clear ho0)
         (try clear ho1)
         obtain ⟨Ao47, co47, eo47⟩ := Kd.R_slice HO219.out
         (first | subst eo47 | (injection eo47 with f1_ f2_ f3_; have f4_ := f1_.symm; have f5_ := f3_.symm; clear f1_ f2_ f3_; subst f4_; subst f5_))
         obtain ⟨Ao48, co48, eo48⟩ := Kd.R_slice HO222.out
         (first | subst eo48 | (injection eo48 with f1_ f2_ f3_; have f4_ := f1_.symm; have f5_ := f3_.symm; clear f1_ f2_ f3_; subst f4_; subst f5_))
         obtain ⟨Ao49, co49, eo49⟩ := Kd.R_slice HO225.out
         (first | subst eo49 | (injection eo49 with f1_ f2_ f3_; have f4_ := f1_.symm; have f5_ := f3_.symm; clear f1_ f2_ f3_; subst f4_; subst f5_))
         obtain ⟨Ao50, co50, eo50⟩ := Kd.R_slice HO228.out
         (first | subst eo50 | (injection eo50 with f1_ f2_ f3_; have f4_ := f1_.symm; have f5_ := f3_.symm; clear f1_ f2_ f3_; subst f4_; subst f5_))
         refine hK.out _ _ ⟨(blk_cell BK213.out 0).trans rfl, (blk_cell BK213.out 1).trans rfl, (blk_cell BK214.out 0).trans rfl, (blk_cell BK214.out 1).trans rfl⟩ (fun hHeld => ?_)
         clear hK K
         refine norm_ (a' := ?_) ?_ ?_
         rotate_left
         ·show Act.put _ (some 27) _ = _
          simp only [Act.put, List.setIfInBounds_toArray, List.set_cons_zero, List.set_cons_succ, i64_w, i32_w]
          rfl
         refine one_ (i := 4) (N := some 28) #[true, true, true, true, true, true, false] rfl rfl (by kernel_rfl) (by decide) (fun K hK => ?_)
         refine goes_ Try.func22 (by kernel_rfl) rfl #[.agg #[.slice Ao47 t217.length co47, .slice Ao48 t220.length co48], .agg #[.slice Ao49 t223.length co49, .slice Ao50 t226.length co50]] (by rfl) rfl rfl Mp_ ?_
         with_reducible refine (spec_Together.calls k _ _ t217 _ _ t220 _ _ t223 _ _ t226 t229 t232 _ ?side1 ?side2 ?side3 ?side4 ?side5 ?side6 ?side7 ?side8 A21.out).mono ?_
         (case side1 => exact Cq_ (Kd.R_reads' HO219.out).2.2)
         (case side2 => exact (Kd.R_reads' HO219.out).2.1)
         (case side3 => exact Cq_ (Kd.R_reads' HO222.out).2.2)
         (case side4 => exact (Kd.R_reads' HO222.out).2.1)
         (case side5 => exact Cq_ (Kd.R_reads' HO225.out).2.2)
         (case side6 => exact (Kd.R_reads' HO225.out).2.1)
         (case side7 => exact Cq_ (Kd.R_reads' HO228.out).2.2)
         (case side8 => exact (Kd.R_reads' HO228.out).2.1)
         rintro e w51 ⟨v230, v233, rfl, ho0, ho1, hb⟩
         refine ⟨_, rfl, ?_⟩
         have HO231 := Aside0.mk (Kd.R_lower (Kd.R_new' (Kd.R_new' ho0 (Kd.R_lt (Rq_ HO219))) (Kd.R_lt (Rq_ HO225))) (below_size (Hf_ HB))); have HO234 := Aside0.mk (Kd.R_lower (Kd.R_new' (Kd.R_new' ho1 (Kd.R_lt (Rq_ HO222))) (Kd.R_lt (Rq_ HO228))) (below_size (Hf_ HB))); replace HO219 := Rl_ HO219 ho0 hb; replace HO222 := Rl_ HO222 ho1 hb; replace HO225 := Rl_ HO225 ho0 hb; replace HO228 := Rl_ HO228 ho1 hb; replace BK213 := Bb_ BK213 hb; replace BK214 := Bb_ BK214 hb; replace BK235 := Bb_ BK235 hb; replace HB := Hs_ HB hb
         (try clear hb)
         (try clear hb2)
         (try clear hk)
         (try clear hi)
         (try clear ho0)
         (try clear ho1)
         refine hK.out _ _ ⟨(blk_cell BK213.out 0).trans rfl, (blk_cell BK213.out 1).trans rfl, (blk_cell BK214.out 0).trans rfl, (blk_cell BK214.out 1).trans rfl⟩ (fun hHeld => ?_)
         clear hK K
         refine norm_ (a' := ?_) ?_ ?_
         rotate_left
         ·show Act.put _ (some 28) _ = _
          simp only [Act.put, List.setIfInBounds_toArray, List.set_cons_zero, List.set_cons_succ, i64_w, i32_w]
          rfl
         exact norm_ (by simp only [putAll, Act.put, List.setIfInBounds_toArray, List.set_cons_zero, List.set_cons_succ]) (hCont (.slice Ao47 t217.length co47, .slice Ao48 t220.length co48, .slice Ao49 t223.length co49, .slice Ao50 t226.length co50, v230, v233, gb235) _ ⟨hHeld, (Rm_ HO219 (fun _ hk => ⟨hk.1.2, hk.2⟩)), (Rm_ HO222 (fun _ hk => ⟨hk.1.2, hk.2⟩)), (Rm_ HO225 (fun _ hk => ⟨hk.1.2, hk.2⟩)), (Rm_ HO228 (fun _ hk => ⟨hk.1.2, hk.2⟩)), (Rm_ HO231 (fun _ hk => ⟨hk.1.2, hk.2⟩)), (Rm_ HO234 (fun _ hk => ⟨hk.1.2, hk.2⟩)), (Bq_ BK213), (Bq_ BK214), (Bq_ BK235), GW235.out, GE235.out, NB213_235.out, NB235_213.out, NB214_235.out, NB235_214.out, (Hf_ HB)⟩)
       ·skip
        refine box_step ?hg (N := 6) ?hd (cs := #[.slice none 0 0, .slice none 0 0]) (t := 28) ?hr ?_; (case hd => rfl); (case hg => rfl); (case hr => first | (go_simp; done) | (go_simp; rfl))
        intro gb235 hg w44 hbox hb
        have BK235 := Aside0.mk (hbox); have GW235 := Hg_ HB hg; have GE235 := GW235; have NB213_235 := Bl_ BK213 hg; have NB235_213 := Bm_ NB213_235; have NB214_235 := Bl_ BK214 hg; have NB235_214 := Bm_ NB214_235; replace BK213 := Bb_ BK213 hb; replace BK214 := Bb_ BK214 hb; replace HB := Hs_ HB hb
        clear hb hbox hg
        refine hK.out _ _ ⟨(blk_cell BK213.out 0).trans rfl, (blk_cell BK213.out 1).trans rfl, (blk_cell BK214.out 0).trans rfl, (blk_cell BK214.out 1).trans rfl⟩ (fun hHeld => ?_)
        clear hK K
        refine norm_ (a' := ?_) ?_ ?_
        rotate_left
        ·show Act.put _ (some 6) _ = _
         simp only [Act.put, List.setIfInBounds_toArray, List.set_cons_zero, List.set_cons_succ, i64_w, i32_w]
         rfl
        refine one_ (i := 1) (N := some 25) #[true, true, true, false, false, true, false] rfl rfl (by kernel_rfl) (by decide) (fun K hK => ?_)
        refine goes_ Try.func15 (by kernel_rfl) rfl #[.agg #[.slice A0_0 l0_0.length c0_0, .slice A0_1 l0_1.length c0_1]] (by rfl) rfl rfl Mp_ ?_
        with_reducible refine (laws_toEnv.calls k _ _ l0_0 _ _ l0_1 t217 t220 _ ?side1 ?side2 ?side3 ?side4 A19.out).mono ?_
        (case side1 => exact Sc_ HR0_0 HB)
        (case side2 => exact HC0_0.out)
        (case side3 => exact Sc_ HR0_1 HB)
        (case side4 => exact HC0_1.out)
        rintro e w45 ⟨v218, v221, rfl, ho0, ho1, hb⟩
        refine ⟨_, rfl, ?_⟩
        have HO219 := Aside0.mk (Kd.R_lower ho0 (below_size (Hf_ HB))); have HO222 := Aside0.mk (Kd.R_lower ho1 (below_size (Hf_ HB))); replace BK213 := Bb_ BK213 hb; replace BK214 := Bb_ BK214 hb; replace BK235 := Bb_ BK235 hb; replace HB := Hs_ HB hb
        (try clear hb)
        (try clear hb2)
        (try clear hk)
        (try clear hi)
        (try clear ho0)
        (try clear ho1)
        refine hK.out _ _ ⟨(blk_cell BK213.out 0).trans rfl, (blk_cell BK213.out 1).trans rfl, (blk_cell BK214.out 0).trans rfl, (blk_cell BK214.out 1).trans rfl⟩ (fun hHeld => ?_)
        clear hK K
        refine norm_ (a' := ?_) ?_ ?_
        rotate_left
        ·show Act.put _ (some 25) _ = _
         simp only [Act.put, List.setIfInBounds_toArray, List.set_cons_zero, List.set_cons_succ, i64_w, i32_w]
         rfl
        refine one_ (i := 3) (N := some 27) #[true, true, true, true, false, true, false] rfl rfl (by kernel_rfl) (by decide) (fun K hK => ?_)
        refine goes_ Try.func15 (by kernel_rfl) rfl #[.agg #[.slice A1_0 l1_0.length c1_0, .slice A1_1 l1_1.length c1_1]] (by rfl) rfl rfl Mp_ ?_
        with_reducible refine (laws_toEnv.calls k _ _ l1_0 _ _ l1_1 t223 t226 _ ?side1 ?side2 ?side3 ?side4 A20.out).mono ?_
        (case side1 => exact Sc_ HR1_0 HB)
        (case side2 => exact HC1_0.out)
        (case side3 => exact Sc_ HR1_1 HB)
        (case side4 => exact HC1_1.out)
        rintro e w46 ⟨v224, v227, rfl, ho0, ho1, hb⟩
        refine ⟨_, rfl, ?_⟩
        have HO225 := Aside0.mk (Kd.R_lower (Kd.R_new' ho0 (Kd.R_lt (Rq_ HO219))) (below_size (Hf_ HB))); have HO228 := Aside0.mk (Kd.R_lower (Kd.R_new' ho1 (Kd.R_lt (Rq_ HO222))) (below_size (Hf_ HB))); replace HO219 := Rl_ HO219 ho0 hb; replace HO222 := Rl_ HO222 ho1 hb; replace BK213 := Bb_ BK213 hb; replace BK214 := Bb_ BK214 hb; replace BK235 := Bb_ BK235 hb; replace HB := Hs_ HB hb
        (try clear hb)
        (try clear hb2)
        (try clear hk)
        (try clear hi)
        (try clear ho0)
        (try clear ho1)
        obtain ⟨Ao47, co47, eo47⟩ := Kd.R_slice HO219.out
        (first | subst eo47 | (injection eo47 with f1_ f2_ f3_; have f4_ := f1_.symm; have f5_ := f3_.symm; clear f1_ f2_ f3_; subst f4_; subst f5_))
        obtain ⟨Ao48, co48, eo48⟩ := Kd.R_slice HO222.out
        (first | subst eo48 | (injection eo48 with f1_ f2_ f3_; have f4_ := f1_.symm; have f5_ := f3_.symm; clear f1_ f2_ f3_; subst f4_; subst f5_))
        obtain ⟨Ao49, co49, eo49⟩ := Kd.R_slice HO225.out
        (first | subst eo49 | (injection eo49 with f1_ f2_ f3_; have f4_ := f1_.symm; have f5_ := f3_.symm; clear f1_ f2_ f3_; subst f4_; subst f5_))
        obtain ⟨Ao50, co50, eo50⟩ := Kd.R_slice HO228.out
        (first | subst eo50 | (injection eo50 with f1_ f2_ f3_; have f4_ := f1_.symm; have f5_ := f3_.symm; clear f1_ f2_ f3_; subst f4_; subst f5_))
        refine hK.out _ _ ⟨(blk_cell BK213.out 0).trans rfl, (blk_cell BK213.out 1).trans rfl, (blk_cell BK214.out 0).trans rfl, (blk_cell BK214.out 1).trans rfl⟩ (fun hHeld => ?_)
        clear hK K
        refine norm_ (a' := ?_) ?_ ?_
        rotate_left
        ·show Act.put _ (some 27) _ = _
         simp only [Act.put, List.setIfInBounds_toArray, List.set_cons_zero, List.set_cons_succ, i64_w, i32_w]
         rfl
        refine one_ (i := 4) (N := some 28) #[true, true, true, true, true, true, false] rfl rfl (by kernel_rfl) (by decide) (fun K hK => ?_)
        refine goes_ Try.func22 (by kernel_rfl) rfl #[.agg #[.slice Ao47 t217.length co47, .slice Ao48 t220.length co48], .agg #[.slice Ao49 t223.length co49, .slice Ao50 t226.length co50]] (by rfl) rfl rfl Mp_ ?_
        with_reducible refine (spec_Together.calls k _ _ t217 _ _ t220 _ _ t223 _ _ t226 t229 t232 _ ?side1 ?side2 ?side3 ?side4 ?side5 ?side6 ?side7 ?side8 A21.out).mono ?_
        (case side1 => exact Cq_ (Kd.R_reads' HO219.out).2.2)
        (case side2 => exact (Kd.R_reads' HO219.out).2.1)
        (case side3 => exact Cq_ (Kd.R_reads' HO222.out).2.2)
        (case side4 => exact (Kd.R_reads' HO222.out).2.1)
        (case side5 => exact Cq_ (Kd.R_reads' HO225.out).2.2)
        (case side6 => exact (Kd.R_reads' HO225.out).2.1)
        (case side7 => exact Cq_ (Kd.R_reads' HO228.out).2.2)
        (case side8 => exact (Kd.R_reads' HO228.out).2.1)
        rintro e w51 ⟨v230, v233, rfl, ho0, ho1, hb⟩
        refine ⟨_, rfl, ?_⟩
        have HO231 := Aside0.mk (Kd.R_lower (Kd.R_new' (Kd.R_new' ho0 (Kd.R_lt (Rq_ HO219))) (Kd.R_lt (Rq_ HO225))) (below_size (Hf_ HB))); have HO234 := Aside0.mk (Kd.R_lower (Kd.R_new' (Kd.R_new' ho1 (Kd.R_lt (Rq_ HO222))) (Kd.R_lt (Rq_ HO228))) (below_size (Hf_ HB))); replace HO219 := Rl_ HO219 ho0 hb; replace HO222 := Rl_ HO222 ho1 hb; replace HO225 := Rl_ HO225 ho0 hb; replace HO228 := Rl_ HO228 ho1 hb; replace BK213 := Bb_ BK213 hb; replace BK214 := Bb_ BK214 hb; replace BK235 := Bb_ BK235 hb; replace HB := Hs_ HB hb
        (try clear hb)
        (try clear hb2)
        (try clear hk)
        (try clear hi)
        (try clear ho0)
        (try clear ho1)
        refine hK.out _ _ ⟨(blk_cell BK213.out 0).trans rfl, (blk_cell BK213.out 1).trans rfl, (blk_cell BK214.out 0).trans rfl, (blk_cell BK214.out 1).trans rfl⟩ (fun hHeld => ?_)
        clear hK K
        refine norm_ (a' := ?_) ?_ ?_
        rotate_left
        ·show Act.put _ (some 28) _ = _
         simp only [Act.put, List.setIfInBounds_toArray, List.set_cons_zero, List.set_cons_succ, i64_w, i32_w]
         rfl
        exact norm_ (by simp only [putAll, Act.put, List.setIfInBounds_toArray, List.set_cons_zero, List.set_cons_succ]) (hCont (.slice Ao47 t217.length co47, .slice Ao48 t220.length co48, .slice Ao49 t223.length co49, .slice Ao50 t226.length co50, v230, v233, gb235) _ ⟨hHeld, (Rm_ HO219 (fun _ hk => ⟨hk.1.2, hk.2⟩)), (Rm_ HO222 (fun _ hk => ⟨hk.1.2, hk.2⟩)), (Rm_ HO225 (fun _ hk => ⟨hk.1.2, hk.2⟩)), (Rm_ HO228 (fun _ hk => ⟨hk.1.2, hk.2⟩)), (Rm_ HO231 (fun _ hk => ⟨hk.1.2, hk.2⟩)), (Rm_ HO234 (fun _ hk => ⟨hk.1.2, hk.2⟩)), (Bq_ BK213), (Bq_ BK214), (Bq_ BK235), GW235.out, GE235.out, NB213_235.out, NB235_213.out, NB214_235.out, NB235_214.out, (Hf_ HB)⟩)
      rintro ⟨v218, v221, v224, v227, v230, v233, gb235⟩ w52 ⟨hS_, h0_, h1_, h2_, h3_, h4_, h5_, h6_, h7_, h8_, h9_, h10_, h11_, h12_, h13_, h14_, h15_⟩
      have n0_ : Aside0 (Kd.R Kd.string 9 w52 w.heap.size (fun k_ => some k_ ≠ (v224 : Value).ownBlock ∧ some k_ ≠ (v230 : Value).ownBlock) v218 t217) := ⟨h0_⟩
      have n1_ : Aside0 (Kd.R (Kd.int .i64) 3 w52 w.heap.size (fun k_ => some k_ ≠ (v227 : Value).ownBlock ∧ some k_ ≠ (v233 : Value).ownBlock) v221 t220) := ⟨h1_⟩
      have n2_ : Aside0 (Kd.R Kd.string 9 w52 w.heap.size (fun k_ => some k_ ≠ (v218 : Value).ownBlock ∧ some k_ ≠ (v230 : Value).ownBlock) v224 t223) := ⟨h2_⟩
      have n3_ : Aside0 (Kd.R (Kd.int .i64) 3 w52 w.heap.size (fun k_ => some k_ ≠ (v221 : Value).ownBlock ∧ some k_ ≠ (v233 : Value).ownBlock) v227 t226) := ⟨h3_⟩
      have n4_ : Aside0 (Kd.R Kd.string 9 w52 w.heap.size (fun k_ => some k_ ≠ (v218 : Value).ownBlock ∧ some k_ ≠ (v224 : Value).ownBlock) v230 t229) := ⟨h4_⟩
      have n5_ : Aside0 (Kd.R (Kd.int .i64) 3 w52 w.heap.size (fun k_ => some k_ ≠ (v221 : Value).ownBlock ∧ some k_ ≠ (v227 : Value).ownBlock) v233 t232) := ⟨h5_⟩
      have n6_ : Aside0 (w52.heap[gb213]? = some (.cells #[.slice A0_0 l0_0.length c0_0, .slice A0_1 l0_1.length c0_1] 25 (0, 0))) := ⟨h6_⟩
      have n7_ : Aside0 (w52.heap[gb214]? = some (.cells #[.slice A1_0 l1_0.length c1_0, .slice A1_1 l1_1.length c1_1] 25 (0, 0))) := ⟨h7_⟩
      have n8_ : Aside0 (w52.heap[gb235]? = some (.cells #[.slice none 0 0, .slice none 0 0] 28 (0, 0))) := ⟨h8_⟩
      have n9_ : Aside0 (w.heap.size ≤ gb235) := ⟨h9_⟩
      have n10_ : Aside0 (w.heap.size ≤ gb235) := ⟨h10_⟩
      have n11_ : Aside0 (gb213 ≠ gb235) := ⟨h11_⟩
      have n12_ : Aside0 (gb235 ≠ gb213) := ⟨h12_⟩
      have n13_ : Aside0 (gb214 ≠ gb235) := ⟨h13_⟩
      have n14_ : Aside0 (gb235 ≠ gb214) := ⟨h14_⟩
      have n15_ : Aside0 (Below w.heap.size w w52) := ⟨h15_⟩
      clear BK213
      clear BK214
      clear HB
      clear h0_ h1_ h2_ h3_ h4_ h5_ h6_ h7_ h8_ h9_ h10_ h11_ h12_ h13_ h14_ h15_
      have HO219 := n0_
      have HO222 := n1_
      have HO225 := n2_
      have HO228 := n3_
      have HO231 := n4_
      have HO234 := n5_
      have BK213 := n6_
      have BK214 := n7_
      have BK235 := n8_
      have GW235 := n9_
      have GE235 := n10_
      have NB213_235 := n11_
      have NB235_213 := n12_
      have NB214_235 := n13_
      have NB235_214 := n14_
      have HB := n15_
      clear n0_ n1_ n2_ n3_ n4_ n5_ n6_ n7_ n8_ n9_ n10_ n11_ n12_ n13_ n14_ n15_
      have hHeld : w52.cell? ⟨gb213, 0, none⟩ = some (.slice A0_0 l0_0.length c0_0) ∧ w52.cell? ⟨gb213, 1, none⟩ = some (.slice A0_1 l0_1.length c0_1) ∧ w52.cell? ⟨gb214, 0, none⟩ = some (.slice A1_0 l1_0.length c1_0) ∧ w52.cell? ⟨gb214, 1, none⟩ = some (.slice A1_1 l1_1.length c1_1) := hS_
      obtain ⟨Ao53, co53, eo53⟩ := Kd.R_slice HO231.out
      (first | subst eo53 | (injection eo53 with f1_ f2_ f3_; have f4_ := f1_.symm; have f5_ := f3_.symm; clear f1_ f2_ f3_; subst f4_; subst f5_))
      obtain ⟨Ao55, co55, eo55⟩ := Kd.R_slice HO234.out
      (first | subst eo55 | (injection eo55 with f1_ f2_ f3_; have f4_ := f1_.symm; have f5_ := f3_.symm; clear f1_ f2_ f3_; subst f4_; subst f5_))
      refine norm_ (a' := ?_) ?_ ?_
      rotate_left
      ·simp only [putAll, Act.put, List.setIfInBounds_toArray, List.set_cons_zero, List.set_cons_succ]
       rfl
      refine one_ (i := 6) (N := none) #[true, true, true, true, true, true, true] rfl rfl (by kernel_rfl) (by decide) (fun K hK => ?_)
      have hs54 : w52.cell? ⟨gb235, 0, none⟩ = some (.slice none 0 0) := (blk_cell BK235.out 0).trans rfl
      have hfs54 := blk_frozen BK235.out 0
      have hns54_0 := NB213_235.out
      have hns54_1 := NB214_235.out
      have hms54_0 := NB235_213.out
      have hms54_1 := NB235_214.out
      have hs56 : w52.cell? ⟨gb235, 1, none⟩ = some (.slice none 0 0) := (blk_cell BK235.out 1).trans rfl
      have hfs56 := blk_frozen BK235.out 1
      have hns56_0 := NB213_235.out
      have hns56_1 := NB214_235.out
      have hms56_0 := NB235_213.out
      have hms56_1 := NB235_214.out
      refine skip_ (w1 := ?_) (by rfl) rfl ?_ ?_
      rotate_left
      ·go_simp
       rfl
      refine hK.out _ _ ⟨((cell_far (p := ⟨gb235, _, none⟩) NB213_235.out _).trans (((cell_far (p := ⟨gb235, _, none⟩) NB213_235.out _).trans (hHeld.1)))), ((cell_far (p := ⟨gb235, _, none⟩) NB213_235.out _).trans (((cell_far (p := ⟨gb235, _, none⟩) NB213_235.out _).trans (hHeld.2.1)))), ((cell_far (p := ⟨gb235, _, none⟩) NB214_235.out _).trans (((cell_far (p := ⟨gb235, _, none⟩) NB214_235.out _).trans (hHeld.2.2.1)))), ((cell_far (p := ⟨gb235, _, none⟩) NB214_235.out _).trans (((cell_far (p := ⟨gb235, _, none⟩) NB214_235.out _).trans (hHeld.2.2.2))))⟩ (fun hHeld => ?_)
      clear hK K
      refine done_ (by kernel_rfl) ?_
      have hnb57 := NB213_235.out
      have hnc57 := NB235_213.out
      obtain ⟨hcz58_0, hcz58_1, hfz58_0, hfz58_1⟩ := Bc2_ BK213
      try go_wp2_with (first | ((with_reducible refine gate_callee (f := 15) rfl ?_); refine goesL_ (some 30) rfl rfl Try.func15 (by kernel_rfl) rfl #[.agg #[.slice A0_0 l0_0.length c0_0, .slice A0_1 l0_1.length c0_1]] rfl Mp_ ?_; (with_reducible refine (laws_toEnv.calls k _ _ l0_0 _ _ l0_1 t236 t239 _ ?side1 ?side2 ?side3 ?side4 A22.out).mono ?_); (case side1 => exact Kd.C_below HR0_0.out (Hf_ HB)); (case side2 => exact HC0_0.out); (case side3 => exact Kd.C_below HR0_1.out (Hf_ HB)); (case side4 => exact HC0_1.out); rintro e w59 ⟨v237, v240, rfl, ho0, ho1, hb⟩; refine ⟨_, rfl, ?_⟩; have HO238 := Aside0.mk (Kd.R_lower (Kd.R_new' (Kd.R_new' (Kd.R_new' ho0 (Kd.R_lt (by (with_reducible repeat (first | apply Kd.R_alloc | apply Kd.R_drewN | apply Kd.R_drew)); exact (Kd.R_mono (Kd.R_far (p := ⟨gb235, 1, none⟩) (Kd.R_far (p := ⟨gb235, 0, none⟩) (Kd.R_types HO219.out BK235.out (by decide)) (fun _ hk => hk.2) (.slice Ao53 t229.length co53)) (fun _ hk => hk.2) (.slice Ao55 t232.length co55)) (fun _ h_ => h_.1))))) (Kd.R_lt (by (with_reducible repeat (first | apply Kd.R_alloc | apply Kd.R_drewN | apply Kd.R_drew)); exact (Kd.R_mono (Kd.R_far (p := ⟨gb235, 1, none⟩) (Kd.R_far (p := ⟨gb235, 0, none⟩) (Kd.R_types HO225.out BK235.out (by decide)) (fun _ hk => hk.2) (.slice Ao53 t229.length co53)) (fun _ hk => hk.2) (.slice Ao55 t232.length co55)) (fun _ h_ => h_.1))))) (Kd.R_lt (by (with_reducible repeat (first | apply Kd.R_alloc | apply Kd.R_drewN | apply Kd.R_drew)); exact (Kd.R_mono (Kd.R_far (p := ⟨gb235, 1, none⟩) (Kd.R_far (p := ⟨gb235, 0, none⟩) (Kd.R_types HO231.out BK235.out (by decide)) (fun _ hk => hk.2) (.slice Ao53 t229.length co53)) (fun _ hk => hk.2) (.slice Ao55 t232.length co55)) (fun _ h_ => h_.1))))) (below_size (Hf_ HB))); have HO241 := Aside0.mk (Kd.R_lower (Kd.R_new' (Kd.R_new' (Kd.R_new' ho1 (Kd.R_lt (by (with_reducible repeat (first | apply Kd.R_alloc | apply Kd.R_drewN | apply Kd.R_drew)); exact (Kd.R_mono (Kd.R_far (p := ⟨gb235, 1, none⟩) (Kd.R_far (p := ⟨gb235, 0, none⟩) (Kd.R_types HO222.out BK235.out (by decide)) (fun _ hk => hk.2) (.slice Ao53 t229.length co53)) (fun _ hk => hk.2) (.slice Ao55 t232.length co55)) (fun _ h_ => h_.1))))) (Kd.R_lt (by (with_reducible repeat (first | apply Kd.R_alloc | apply Kd.R_drewN | apply Kd.R_drew)); exact (Kd.R_mono (Kd.R_far (p := ⟨gb235, 1, none⟩) (Kd.R_far (p := ⟨gb235, 0, none⟩) (Kd.R_types HO228.out BK235.out (by decide)) (fun _ hk => hk.2) (.slice Ao53 t229.length co53)) (fun _ hk => hk.2) (.slice Ao55 t232.length co55)) (fun _ h_ => h_.1))))) (Kd.R_lt (by (with_reducible repeat (first | apply Kd.R_alloc | apply Kd.R_drewN | apply Kd.R_drew)); exact (Kd.R_mono (Kd.R_far (p := ⟨gb235, 1, none⟩) (Kd.R_far (p := ⟨gb235, 0, none⟩) (Kd.R_types HO234.out BK235.out (by decide)) (fun _ hk => hk.2) (.slice Ao53 t229.length co53)) (fun _ hk => hk.2) (.slice Ao55 t232.length co55)) (fun _ h_ => h_.1))))) (below_size (Hf_ HB))); replace HO219 := Aside0.mk (Kd.R_elder' (by (with_reducible repeat (first | apply Kd.R_alloc | apply Kd.R_drewN | apply Kd.R_drew)); exact (Kd.R_mono (Kd.R_far (p := ⟨gb235, 1, none⟩) (Kd.R_far (p := ⟨gb235, 0, none⟩) (Kd.R_types HO219.out BK235.out (by decide)) (fun _ hk => hk.2) (.slice Ao53 t229.length co53)) (fun _ hk => hk.2) (.slice Ao55 t232.length co55)) (fun _ h_ => h_.1))) (Kd.R_base ho0) hb); replace HO222 := Aside0.mk (Kd.R_elder' (by (with_reducible repeat (first | apply Kd.R_alloc | apply Kd.R_drewN | apply Kd.R_drew)); exact (Kd.R_mono (Kd.R_far (p := ⟨gb235, 1, none⟩) (Kd.R_far (p := ⟨gb235, 0, none⟩) (Kd.R_types HO222.out BK235.out (by decide)) (fun _ hk => hk.2) (.slice Ao53 t229.length co53)) (fun _ hk => hk.2) (.slice Ao55 t232.length co55)) (fun _ h_ => h_.1))) (Kd.R_base ho1) hb); replace HO225 := Aside0.mk (Kd.R_elder' (by (with_reducible repeat (first | apply Kd.R_alloc | apply Kd.R_drewN | apply Kd.R_drew)); exact (Kd.R_mono (Kd.R_far (p := ⟨gb235, 1, none⟩) (Kd.R_far (p := ⟨gb235, 0, none⟩) (Kd.R_types HO225.out BK235.out (by decide)) (fun _ hk => hk.2) (.slice Ao53 t229.length co53)) (fun _ hk => hk.2) (.slice Ao55 t232.length co55)) (fun _ h_ => h_.1))) (Kd.R_base ho0) hb); replace HO228 := Aside0.mk (Kd.R_elder' (by (with_reducible repeat (first | apply Kd.R_alloc | apply Kd.R_drewN | apply Kd.R_drew)); exact (Kd.R_mono (Kd.R_far (p := ⟨gb235, 1, none⟩) (Kd.R_far (p := ⟨gb235, 0, none⟩) (Kd.R_types HO228.out BK235.out (by decide)) (fun _ hk => hk.2) (.slice Ao53 t229.length co53)) (fun _ hk => hk.2) (.slice Ao55 t232.length co55)) (fun _ h_ => h_.1))) (Kd.R_base ho1) hb); replace HO231 := Aside0.mk (Kd.R_elder' (by (with_reducible repeat (first | apply Kd.R_alloc | apply Kd.R_drewN | apply Kd.R_drew)); exact (Kd.R_mono (Kd.R_far (p := ⟨gb235, 1, none⟩) (Kd.R_far (p := ⟨gb235, 0, none⟩) (Kd.R_types HO231.out BK235.out (by decide)) (fun _ hk => hk.2) (.slice Ao53 t229.length co53)) (fun _ hk => hk.2) (.slice Ao55 t232.length co55)) (fun _ h_ => h_.1))) (Kd.R_base ho0) hb); replace HO234 := Aside0.mk (Kd.R_elder' (by (with_reducible repeat (first | apply Kd.R_alloc | apply Kd.R_drewN | apply Kd.R_drew)); exact (Kd.R_mono (Kd.R_far (p := ⟨gb235, 1, none⟩) (Kd.R_far (p := ⟨gb235, 0, none⟩) (Kd.R_types HO234.out BK235.out (by decide)) (fun _ hk => hk.2) (.slice Ao53 t229.length co53)) (fun _ hk => hk.2) (.slice Ao55 t232.length co55)) (fun _ h_ => h_.1))) (Kd.R_base ho1) hb); replace BK213 := Aside0.mk (blk_below (g := gb213) (o := .cells #[.slice A0_0 l0_0.length c0_0, .slice A0_1 l0_1.length c0_1] 25 (0, 0)) (by (with_reducible repeat (first | refine blk_drewN ?_ _ | refine blk_drew ?_ | refine blk_alloc ?_ _)); refine blk_far ?_ NB213_235.out _; (with_reducible repeat (first | refine blk_drewN ?_ _ | refine blk_drew ?_ | refine blk_alloc ?_ _)); refine blk_far ?_ NB213_235.out _; (with_reducible repeat (first | refine blk_drewN ?_ _ | refine blk_drew ?_ | refine blk_alloc ?_ _)); exact BK213.out) hb); replace BK214 := Aside0.mk (blk_below (g := gb214) (o := .cells #[.slice A1_0 l1_0.length c1_0, .slice A1_1 l1_1.length c1_1] 25 (0, 0)) (by (with_reducible repeat (first | refine blk_drewN ?_ _ | refine blk_drew ?_ | refine blk_alloc ?_ _)); refine blk_far ?_ NB214_235.out _; (with_reducible repeat (first | refine blk_drewN ?_ _ | refine blk_drew ?_ | refine blk_alloc ?_ _)); refine blk_far ?_ NB214_235.out _; (with_reducible repeat (first | refine blk_drewN ?_ _ | refine blk_drew ?_ | refine blk_alloc ?_ _)); exact BK214.out) hb); replace BK235 := Aside0.mk (blk_below (g := gb235) (o := .cells #[.slice Ao53 t229.length co53, .slice Ao55 t232.length co55] 28 (0, 0)) (by (with_reducible repeat (first | refine blk_drewN ?_ _ | refine blk_drew ?_ | refine blk_alloc ?_ _)); refine blk_put (cs := #[.slice Ao53 t229.length co53, .slice none 0 0]) ?_ 1 _ rfl; (with_reducible repeat (first | refine blk_drewN ?_ _ | refine blk_drew ?_ | refine blk_alloc ?_ _)); refine blk_put (cs := #[.slice none 0 0, .slice none 0 0]) ?_ 0 _ rfl; (with_reducible repeat (first | refine blk_drewN ?_ _ | refine blk_drew ?_ | refine blk_alloc ?_ _)); exact BK235.out) hb); replace HB := Hs_ HB hb; (try clear hb); (try clear hb2); (try clear hk); (try clear hi); (try clear ho0); (try clear ho1)) | ((with_reducible refine gate_dst (N := 7) rfl ?_); refine box_event ?hg (N := 7) ?hd (cs := #[.slice none 0 0, .slice none 0 0]) (t := 28) ?hr ?_; (case hd => rfl); (case hg => rfl); (case hr => first | (go_simp; done) | (go_simp; rfl)); intro gb242 hg w60 hbox hb; have BK242 := Aside0.mk (hbox); have GW242 := Hg_ HB hg; have GE242 := GW242; have NB213_242 := Bl_ BK213 hg; have NB242_213 := Bm_ NB213_242; have NB214_242 := Bl_ BK214 hg; have NB242_214 := Bm_ NB214_242; have NB235_242 := Bl_ BK235 hg; have NB242_235 := Bm_ NB235_242; replace HO219 := Rb_ HO219 hb; replace HO222 := Rb_ HO222 hb; replace HO225 := Rb_ HO225 hb; replace HO228 := Rb_ HO228 hb; replace HO231 := Rb_ HO231 hb; replace HO234 := Rb_ HO234 hb; replace HO238 := Rb_ HO238 hb; replace HO241 := Rb_ HO241 hb; replace BK213 := Bb_ BK213 hb; replace BK214 := Bb_ BK214 hb; replace BK235 := Bb_ BK235 hb; replace HB := Hs_ HB hb; clear hb hbox hg; obtain ⟨Ao61, co61, eo61⟩ := Kd.R_slice HO238.out; subst eo61; have hnb62 := NB242_213.out; have hnc62 := NB213_242.out; have hnb63 := NB242_214.out; have hnc63 := NB214_242.out; have hnb64 := NB242_235.out; have hnc64 := NB235_242.out; obtain ⟨hcz65_0, hcz65_1, hfz65_0, hfz65_1⟩ := Bc2_ BK242; obtain ⟨Ao66, co66, eo66⟩ := Kd.R_slice HO241.out; subst eo66; have hnb67 := NB214_235.out; have hnc67 := NB235_214.out; obtain ⟨hcz68_0, hcz68_1, hfz68_0, hfz68_1⟩ := Bc2_ BK214) | ((with_reducible refine gate_callee (f := 15) rfl ?_); refine goesL_ (some 32) rfl rfl Try.func15 (by kernel_rfl) rfl #[.agg #[.slice A1_0 l1_0.length c1_0, .slice A1_1 l1_1.length c1_1]] rfl Mp_ ?_; (with_reducible refine (laws_toEnv.calls k _ _ l1_0 _ _ l1_1 t243 t246 _ ?side1 ?side2 ?side3 ?side4 A23.out).mono ?_); (case side1 => exact Kd.C_below HR1_0.out (Hf_ HB)); (case side2 => exact HC1_0.out); (case side3 => exact Kd.C_below HR1_1.out (Hf_ HB)); (case side4 => exact HC1_1.out); rintro e w69 ⟨v244, v247, rfl, ho0, ho1, hb⟩; refine ⟨_, rfl, ?_⟩; have HO245 := Aside0.mk (Kd.R_lower (Kd.R_new' (Kd.R_new' (Kd.R_new' (Kd.R_new' ho0 (Kd.R_lt (by (with_reducible repeat (first | apply Kd.R_alloc | apply Kd.R_drewN | apply Kd.R_drew)); exact (Kd.R_mono (Kd.R_far (p := ⟨gb242, 1, none⟩) (Kd.R_far (p := ⟨gb242, 0, none⟩) (Kd.R_types HO219.out BK242.out (by decide)) (fun _ hk => hk.2) (.slice Ao61 t236.length co61)) (fun _ hk => hk.2) (.slice Ao66 t239.length co66)) (fun _ h_ => h_.1))))) (Kd.R_lt (by (with_reducible repeat (first | apply Kd.R_alloc | apply Kd.R_drewN | apply Kd.R_drew)); exact (Kd.R_mono (Kd.R_far (p := ⟨gb242, 1, none⟩) (Kd.R_far (p := ⟨gb242, 0, none⟩) (Kd.R_types HO225.out BK242.out (by decide)) (fun _ hk => hk.2) (.slice Ao61 t236.length co61)) (fun _ hk => hk.2) (.slice Ao66 t239.length co66)) (fun _ h_ => h_.1))))) (Kd.R_lt (by (with_reducible repeat (first | apply Kd.R_alloc | apply Kd.R_drewN | apply Kd.R_drew)); exact (Kd.R_mono (Kd.R_far (p := ⟨gb242, 1, none⟩) (Kd.R_far (p := ⟨gb242, 0, none⟩) (Kd.R_types HO231.out BK242.out (by decide)) (fun _ hk => hk.2) (.slice Ao61 t236.length co61)) (fun _ hk => hk.2) (.slice Ao66 t239.length co66)) (fun _ h_ => h_.1))))) (Kd.R_lt (by (with_reducible repeat (first | apply Kd.R_alloc | apply Kd.R_drewN | apply Kd.R_drew)); exact (Kd.R_mono (Kd.R_far (p := ⟨gb242, 1, none⟩) (Kd.R_far (p := ⟨gb242, 0, none⟩) (Kd.R_types HO238.out BK242.out (by decide)) (fun _ hk => hk.2) (.slice Ao61 t236.length co61)) (fun _ hk => hk.2) (.slice Ao66 t239.length co66)) (fun _ h_ => h_.1))))) (below_size (Hf_ HB))); have HO248 := Aside0.mk (Kd.R_lower (Kd.R_new' (Kd.R_new' (Kd.R_new' (Kd.R_new' ho1 (Kd.R_lt (by (with_reducible repeat (first | apply Kd.R_alloc | apply Kd.R_drewN | apply Kd.R_drew)); exact (Kd.R_mono (Kd.R_far (p := ⟨gb242, 1, none⟩) (Kd.R_far (p := ⟨gb242, 0, none⟩) (Kd.R_types HO222.out BK242.out (by decide)) (fun _ hk => hk.2) (.slice Ao61 t236.length co61)) (fun _ hk => hk.2) (.slice Ao66 t239.length co66)) (fun _ h_ => h_.1))))) (Kd.R_lt (by (with_reducible repeat (first | apply Kd.R_alloc | apply Kd.R_drewN | apply Kd.R_drew)); exact (Kd.R_mono (Kd.R_far (p := ⟨gb242, 1, none⟩) (Kd.R_far (p := ⟨gb242, 0, none⟩) (Kd.R_types HO228.out BK242.out (by decide)) (fun _ hk => hk.2) (.slice Ao61 t236.length co61)) (fun _ hk => hk.2) (.slice Ao66 t239.length co66)) (fun _ h_ => h_.1))))) (Kd.R_lt (by (with_reducible repeat (first | apply Kd.R_alloc | apply Kd.R_drewN | apply Kd.R_drew)); exact (Kd.R_mono (Kd.R_far (p := ⟨gb242, 1, none⟩) (Kd.R_far (p := ⟨gb242, 0, none⟩) (Kd.R_types HO234.out BK242.out (by decide)) (fun _ hk => hk.2) (.slice Ao61 t236.length co61)) (fun _ hk => hk.2) (.slice Ao66 t239.length co66)) (fun _ h_ => h_.1))))) (Kd.R_lt (by (with_reducible repeat (first | apply Kd.R_alloc | apply Kd.R_drewN | apply Kd.R_drew)); exact (Kd.R_mono (Kd.R_far (p := ⟨gb242, 1, none⟩) (Kd.R_far (p := ⟨gb242, 0, none⟩) (Kd.R_types HO241.out BK242.out (by decide)) (fun _ hk => hk.2) (.slice Ao61 t236.length co61)) (fun _ hk => hk.2) (.slice Ao66 t239.length co66)) (fun _ h_ => h_.1))))) (below_size (Hf_ HB))); replace HO219 := Aside0.mk (Kd.R_elder' (by (with_reducible repeat (first | apply Kd.R_alloc | apply Kd.R_drewN | apply Kd.R_drew)); exact (Kd.R_mono (Kd.R_far (p := ⟨gb242, 1, none⟩) (Kd.R_far (p := ⟨gb242, 0, none⟩) (Kd.R_types HO219.out BK242.out (by decide)) (fun _ hk => hk.2) (.slice Ao61 t236.length co61)) (fun _ hk => hk.2) (.slice Ao66 t239.length co66)) (fun _ h_ => h_.1))) (Kd.R_base ho0) hb); replace HO222 := Aside0.mk (Kd.R_elder' (by (with_reducible repeat (first | apply Kd.R_alloc | apply Kd.R_drewN | apply Kd.R_drew)); exact (Kd.R_mono (Kd.R_far (p := ⟨gb242, 1, none⟩) (Kd.R_far (p := ⟨gb242, 0, none⟩) (Kd.R_types HO222.out BK242.out (by decide)) (fun _ hk => hk.2) (.slice Ao61 t236.length co61)) (fun _ hk => hk.2) (.slice Ao66 t239.length co66)) (fun _ h_ => h_.1))) (Kd.R_base ho1) hb); replace HO225 := Aside0.mk (Kd.R_elder' (by (with_reducible repeat (first | apply Kd.R_alloc | apply Kd.R_drewN | apply Kd.R_drew)); exact (Kd.R_mono (Kd.R_far (p := ⟨gb242, 1, none⟩) (Kd.R_far (p := ⟨gb242, 0, none⟩) (Kd.R_types HO225.out BK242.out (by decide)) (fun _ hk => hk.2) (.slice Ao61 t236.length co61)) (fun _ hk => hk.2) (.slice Ao66 t239.length co66)) (fun _ h_ => h_.1))) (Kd.R_base ho0) hb); replace HO228 := Aside0.mk (Kd.R_elder' (by (with_reducible repeat (first | apply Kd.R_alloc | apply Kd.R_drewN | apply Kd.R_drew)); exact (Kd.R_mono (Kd.R_far (p := ⟨gb242, 1, none⟩) (Kd.R_far (p := ⟨gb242, 0, none⟩) (Kd.R_types HO228.out BK242.out (by decide)) (fun _ hk => hk.2) (.slice Ao61 t236.length co61)) (fun _ hk => hk.2) (.slice Ao66 t239.length co66)) (fun _ h_ => h_.1))) (Kd.R_base ho1) hb); replace HO231 := Aside0.mk (Kd.R_elder' (by (with_reducible repeat (first | apply Kd.R_alloc | apply Kd.R_drewN | apply Kd.R_drew)); exact (Kd.R_mono (Kd.R_far (p := ⟨gb242, 1, none⟩) (Kd.R_far (p := ⟨gb242, 0, none⟩) (Kd.R_types HO231.out BK242.out (by decide)) (fun _ hk => hk.2) (.slice Ao61 t236.length co61)) (fun _ hk => hk.2) (.slice Ao66 t239.length co66)) (fun _ h_ => h_.1))) (Kd.R_base ho0) hb); replace HO234 := Aside0.mk (Kd.R_elder' (by (with_reducible repeat (first | apply Kd.R_alloc | apply Kd.R_drewN | apply Kd.R_drew)); exact (Kd.R_mono (Kd.R_far (p := ⟨gb242, 1, none⟩) (Kd.R_far (p := ⟨gb242, 0, none⟩) (Kd.R_types HO234.out BK242.out (by decide)) (fun _ hk => hk.2) (.slice Ao61 t236.length co61)) (fun _ hk => hk.2) (.slice Ao66 t239.length co66)) (fun _ h_ => h_.1))) (Kd.R_base ho1) hb); replace HO238 := Aside0.mk (Kd.R_elder' (by (with_reducible repeat (first | apply Kd.R_alloc | apply Kd.R_drewN | apply Kd.R_drew)); exact (Kd.R_mono (Kd.R_far (p := ⟨gb242, 1, none⟩) (Kd.R_far (p := ⟨gb242, 0, none⟩) (Kd.R_types HO238.out BK242.out (by decide)) (fun _ hk => hk.2) (.slice Ao61 t236.length co61)) (fun _ hk => hk.2) (.slice Ao66 t239.length co66)) (fun _ h_ => h_.1))) (Kd.R_base ho0) hb); replace HO241 := Aside0.mk (Kd.R_elder' (by (with_reducible repeat (first | apply Kd.R_alloc | apply Kd.R_drewN | apply Kd.R_drew)); exact (Kd.R_mono (Kd.R_far (p := ⟨gb242, 1, none⟩) (Kd.R_far (p := ⟨gb242, 0, none⟩) (Kd.R_types HO241.out BK242.out (by decide)) (fun _ hk => hk.2) (.slice Ao61 t236.length co61)) (fun _ hk => hk.2) (.slice Ao66 t239.length co66)) (fun _ h_ => h_.1))) (Kd.R_base ho1) hb); replace BK213 := Aside0.mk (blk_below (g := gb213) (o := .cells #[.slice A0_0 l0_0.length c0_0, .slice A0_1 l0_1.length c0_1] 25 (0, 0)) (by (with_reducible repeat (first | refine blk_drewN ?_ _ | refine blk_drew ?_ | refine blk_alloc ?_ _)); refine blk_far ?_ NB213_242.out _; (with_reducible repeat (first | refine blk_drewN ?_ _ | refine blk_drew ?_ | refine blk_alloc ?_ _)); refine blk_far ?_ NB213_242.out _; (with_reducible repeat (first | refine blk_drewN ?_ _ | refine blk_drew ?_ | refine blk_alloc ?_ _)); exact BK213.out) hb); replace BK214 := Aside0.mk (blk_below (g := gb214) (o := .cells #[.slice A1_0 l1_0.length c1_0, .slice A1_1 l1_1.length c1_1] 25 (0, 0)) (by (with_reducible repeat (first | refine blk_drewN ?_ _ | refine blk_drew ?_ | refine blk_alloc ?_ _)); refine blk_far ?_ NB214_242.out _; (with_reducible repeat (first | refine blk_drewN ?_ _ | refine blk_drew ?_ | refine blk_alloc ?_ _)); refine blk_far ?_ NB214_242.out _; (with_reducible repeat (first | refine blk_drewN ?_ _ | refine blk_drew ?_ | refine blk_alloc ?_ _)); exact BK214.out) hb); replace BK235 := Aside0.mk (blk_below (g := gb235) (o := .cells #[.slice Ao53 t229.length co53, .slice Ao55 t232.length co55] 28 (0, 0)) (by (with_reducible repeat (first | refine blk_drewN ?_ _ | refine blk_drew ?_ | refine blk_alloc ?_ _)); refine blk_far ?_ NB235_242.out _; (with_reducible repeat (first | refine blk_drewN ?_ _ | refine blk_drew ?_ | refine blk_alloc ?_ _)); refine blk_far ?_ NB235_242.out _; (with_reducible repeat (first | refine blk_drewN ?_ _ | refine blk_drew ?_ | refine blk_alloc ?_ _)); exact BK235.out) hb); replace BK242 := Aside0.mk (blk_below (g := gb242) (o := .cells #[.slice Ao61 t236.length co61, .slice Ao66 t239.length co66] 28 (0, 0)) (by (with_reducible repeat (first | refine blk_drewN ?_ _ | refine blk_drew ?_ | refine blk_alloc ?_ _)); refine blk_put (cs := #[.slice Ao61 t236.length co61, .slice none 0 0]) ?_ 1 _ rfl; (with_reducible repeat (first | refine blk_drewN ?_ _ | refine blk_drew ?_ | refine blk_alloc ?_ _)); refine blk_put (cs := #[.slice none 0 0, .slice none 0 0]) ?_ 0 _ rfl; (with_reducible repeat (first | refine blk_drewN ?_ _ | refine blk_drew ?_ | refine blk_alloc ?_ _)); exact BK242.out) hb); replace HB := Hs_ HB hb; (try clear hb); (try clear hb2); (try clear hk); (try clear hi); (try clear ho0); (try clear ho1)) | ((with_reducible refine gate_dst (N := 8) rfl ?_); refine box_event ?hg (N := 8) ?hd (cs := #[.slice none 0 0, .slice none 0 0]) (t := 28) ?hr ?_; (case hd => rfl); (case hg => rfl); (case hr => first | (go_simp; done) | (go_simp; rfl)); intro gb249 hg w70 hbox hb; have BK249 := Aside0.mk (hbox); have GW249 := Hg_ HB hg; have GE249 := GW249; have NB213_249 := Bl_ BK213 hg; have NB249_213 := Bm_ NB213_249; have NB214_249 := Bl_ BK214 hg; have NB249_214 := Bm_ NB214_249; have NB235_249 := Bl_ BK235 hg; have NB249_235 := Bm_ NB235_249; have NB242_249 := Bl_ BK242 hg; have NB249_242 := Bm_ NB242_249; replace HO219 := Rb_ HO219 hb; replace HO222 := Rb_ HO222 hb; replace HO225 := Rb_ HO225 hb; replace HO228 := Rb_ HO228 hb; replace HO231 := Rb_ HO231 hb; replace HO234 := Rb_ HO234 hb; replace HO238 := Rb_ HO238 hb; replace HO241 := Rb_ HO241 hb; replace HO245 := Rb_ HO245 hb; replace HO248 := Rb_ HO248 hb; replace BK213 := Bb_ BK213 hb; replace BK214 := Bb_ BK214 hb; replace BK235 := Bb_ BK235 hb; replace BK242 := Bb_ BK242 hb; replace HB := Hs_ HB hb; clear hb hbox hg; obtain ⟨Ao71, co71, eo71⟩ := Kd.R_slice HO245.out; subst eo71; have hnb72 := NB249_213.out; have hnc72 := NB213_249.out; have hnb73 := NB249_214.out; have hnc73 := NB214_249.out; have hnb74 := NB249_235.out; have hnc74 := NB235_249.out; have hnb75 := NB249_242.out; have hnc75 := NB242_249.out; obtain ⟨hcz76_0, hcz76_1, hfz76_0, hfz76_1⟩ := Bc2_ BK249; obtain ⟨Ao77, co77, eo77⟩ := Kd.R_slice HO248.out; subst eo77; obtain ⟨hcz78_0, hcz78_1, hfz78_0, hfz78_1⟩ := Bc2_ BK242) | ((with_reducible refine gate_callee (f := 23) rfl ?_); refine goesL_ (some 35) rfl rfl Try.func23 (by kernel_rfl) rfl #[.agg #[.slice Ao61 t236.length co61, .slice Ao66 t239.length co66], .agg #[.slice Ao71 t243.length co71, .slice Ao77 t246.length co77]] rfl Mp_ ?_; (with_reducible refine (impl_Together.calls k _ _ t236 _ _ t239 _ _ t243 _ _ t246 t250 t253 _ ?side1 ?side2 ?side3 ?side4 ?side5 ?side6 ?side7 ?side8 A24.out).mono ?_); (case side1 => refine (Kd.R_reads' (e := 9) (base := w.heap.size) (ok := fun k_ => ((((True ∧ some k_ ≠ (v218 : Value).ownBlock) ∧ some k_ ≠ (v224 : Value).ownBlock) ∧ some k_ ≠ (.slice Ao53 t229.length co53 : Value).ownBlock) ∧ some k_ ≠ (.slice Ao71 t243.length co71 : Value).ownBlock)) (n := t236.length) (c := co61) ?_).2.2; exact (by (with_reducible repeat (first | apply Kd.R_alloc | apply Kd.R_drewN | apply Kd.R_drew)); exact (Kd.R_mono (Kd.R_far (p := ⟨gb249, 1, none⟩) (Kd.R_far (p := ⟨gb249, 0, none⟩) (Kd.R_types HO238.out BK249.out (by decide)) (fun _ hk => hk.2) (.slice Ao71 t243.length co71)) (fun _ hk => hk.2) (.slice Ao77 t246.length co77)) (fun _ h_ => h_.1)))); (case side2 => exact (Kd.R_reads' HO238.out).2.1); (case side3 => refine (Kd.R_reads' (e := 3) (base := w.heap.size) (ok := fun k_ => ((((True ∧ some k_ ≠ (v221 : Value).ownBlock) ∧ some k_ ≠ (v227 : Value).ownBlock) ∧ some k_ ≠ (.slice Ao55 t232.length co55 : Value).ownBlock) ∧ some k_ ≠ (.slice Ao77 t246.length co77 : Value).ownBlock)) (n := t239.length) (c := co66) ?_).2.2; exact (by (with_reducible repeat (first | apply Kd.R_alloc | apply Kd.R_drewN | apply Kd.R_drew)); exact (Kd.R_mono (Kd.R_far (p := ⟨gb249, 1, none⟩) (Kd.R_far (p := ⟨gb249, 0, none⟩) (Kd.R_types HO241.out BK249.out (by decide)) (fun _ hk => hk.2) (.slice Ao71 t243.length co71)) (fun _ hk => hk.2) (.slice Ao77 t246.length co77)) (fun _ h_ => h_.1)))); (case side4 => exact (Kd.R_reads' HO241.out).2.1); (case side5 => refine (Kd.R_reads' (e := 9) (base := w.heap.size) (ok := fun k_ => ((((True ∧ some k_ ≠ (v218 : Value).ownBlock) ∧ some k_ ≠ (v224 : Value).ownBlock) ∧ some k_ ≠ (.slice Ao53 t229.length co53 : Value).ownBlock) ∧ some k_ ≠ (.slice Ao61 t236.length co61 : Value).ownBlock)) (n := t243.length) (c := co71) ?_).2.2; exact (by (with_reducible repeat (first | apply Kd.R_alloc | apply Kd.R_drewN | apply Kd.R_drew)); exact (Kd.R_mono (Kd.R_far (p := ⟨gb249, 1, none⟩) (Kd.R_far (p := ⟨gb249, 0, none⟩) (Kd.R_types HO245.out BK249.out (by decide)) (fun _ hk => hk.2) (.slice Ao71 t243.length co71)) (fun _ hk => hk.2) (.slice Ao77 t246.length co77)) (fun _ h_ => h_.1)))); (case side6 => exact (Kd.R_reads' HO245.out).2.1); (case side7 => refine (Kd.R_reads' (e := 3) (base := w.heap.size) (ok := fun k_ => ((((True ∧ some k_ ≠ (v221 : Value).ownBlock) ∧ some k_ ≠ (v227 : Value).ownBlock) ∧ some k_ ≠ (.slice Ao55 t232.length co55 : Value).ownBlock) ∧ some k_ ≠ (.slice Ao66 t239.length co66 : Value).ownBlock)) (n := t246.length) (c := co77) ?_).2.2; exact (by (with_reducible repeat (first | apply Kd.R_alloc | apply Kd.R_drewN | apply Kd.R_drew)); exact (Kd.R_mono (Kd.R_far (p := ⟨gb249, 1, none⟩) (Kd.R_far (p := ⟨gb249, 0, none⟩) (Kd.R_types HO248.out BK249.out (by decide)) (fun _ hk => hk.2) (.slice Ao71 t243.length co71)) (fun _ hk => hk.2) (.slice Ao77 t246.length co77)) (fun _ h_ => h_.1)))); (case side8 => exact (Kd.R_reads' HO248.out).2.1); rintro e w79 ⟨v251, v254, rfl, ho0, ho1, hb⟩; refine ⟨_, rfl, ?_⟩; have HO252 := Aside0.mk (Kd.R_lower (Kd.R_new' (Kd.R_new' (Kd.R_new' (Kd.R_new' (Kd.R_new' ho0 (Kd.R_lt (by (with_reducible repeat (first | apply Kd.R_alloc | apply Kd.R_drewN | apply Kd.R_drew)); exact (Kd.R_mono (Kd.R_far (p := ⟨gb249, 1, none⟩) (Kd.R_far (p := ⟨gb249, 0, none⟩) (Kd.R_types HO219.out BK249.out (by decide)) (fun _ hk => hk.2) (.slice Ao71 t243.length co71)) (fun _ hk => hk.2) (.slice Ao77 t246.length co77)) (fun _ h_ => h_.1))))) (Kd.R_lt (by (with_reducible repeat (first | apply Kd.R_alloc | apply Kd.R_drewN | apply Kd.R_drew)); exact (Kd.R_mono (Kd.R_far (p := ⟨gb249, 1, none⟩) (Kd.R_far (p := ⟨gb249, 0, none⟩) (Kd.R_types HO225.out BK249.out (by decide)) (fun _ hk => hk.2) (.slice Ao71 t243.length co71)) (fun _ hk => hk.2) (.slice Ao77 t246.length co77)) (fun _ h_ => h_.1))))) (Kd.R_lt (by (with_reducible repeat (first | apply Kd.R_alloc | apply Kd.R_drewN | apply Kd.R_drew)); exact (Kd.R_mono (Kd.R_far (p := ⟨gb249, 1, none⟩) (Kd.R_far (p := ⟨gb249, 0, none⟩) (Kd.R_types HO231.out BK249.out (by decide)) (fun _ hk => hk.2) (.slice Ao71 t243.length co71)) (fun _ hk => hk.2) (.slice Ao77 t246.length co77)) (fun _ h_ => h_.1))))) (Kd.R_lt (by (with_reducible repeat (first | apply Kd.R_alloc | apply Kd.R_drewN | apply Kd.R_drew)); exact (Kd.R_mono (Kd.R_far (p := ⟨gb249, 1, none⟩) (Kd.R_far (p := ⟨gb249, 0, none⟩) (Kd.R_types HO238.out BK249.out (by decide)) (fun _ hk => hk.2) (.slice Ao71 t243.length co71)) (fun _ hk => hk.2) (.slice Ao77 t246.length co77)) (fun _ h_ => h_.1))))) (Kd.R_lt (by (with_reducible repeat (first | apply Kd.R_alloc | apply Kd.R_drewN | apply Kd.R_drew)); exact (Kd.R_mono (Kd.R_far (p := ⟨gb249, 1, none⟩) (Kd.R_far (p := ⟨gb249, 0, none⟩) (Kd.R_types HO245.out BK249.out (by decide)) (fun _ hk => hk.2) (.slice Ao71 t243.length co71)) (fun _ hk => hk.2) (.slice Ao77 t246.length co77)) (fun _ h_ => h_.1))))) (below_size (Hf_ HB))); have HO255 := Aside0.mk (Kd.R_lower (Kd.R_new' (Kd.R_new' (Kd.R_new' (Kd.R_new' (Kd.R_new' ho1 (Kd.R_lt (by (with_reducible repeat (first | apply Kd.R_alloc | apply Kd.R_drewN | apply Kd.R_drew)); exact (Kd.R_mono (Kd.R_far (p := ⟨gb249, 1, none⟩) (Kd.R_far (p := ⟨gb249, 0, none⟩) (Kd.R_types HO222.out BK249.out (by decide)) (fun _ hk => hk.2) (.slice Ao71 t243.length co71)) (fun _ hk => hk.2) (.slice Ao77 t246.length co77)) (fun _ h_ => h_.1))))) (Kd.R_lt (by (with_reducible repeat (first | apply Kd.R_alloc | apply Kd.R_drewN | apply Kd.R_drew)); exact (Kd.R_mono (Kd.R_far (p := ⟨gb249, 1, none⟩) (Kd.R_far (p := ⟨gb249, 0, none⟩) (Kd.R_types HO228.out BK249.out (by decide)) (fun _ hk => hk.2) (.slice Ao71 t243.length co71)) (fun _ hk => hk.2) (.slice Ao77 t246.length co77)) (fun _ h_ => h_.1))))) (Kd.R_lt (by (with_reducible repeat (first | apply Kd.R_alloc | apply Kd.R_drewN | apply Kd.R_drew)); exact (Kd.R_mono (Kd.R_far (p := ⟨gb249, 1, none⟩) (Kd.R_far (p := ⟨gb249, 0, none⟩) (Kd.R_types HO234.out BK249.out (by decide)) (fun _ hk => hk.2) (.slice Ao71 t243.length co71)) (fun _ hk => hk.2) (.slice Ao77 t246.length co77)) (fun _ h_ => h_.1))))) (Kd.R_lt (by (with_reducible repeat (first | apply Kd.R_alloc | apply Kd.R_drewN | apply Kd.R_drew)); exact (Kd.R_mono (Kd.R_far (p := ⟨gb249, 1, none⟩) (Kd.R_far (p := ⟨gb249, 0, none⟩) (Kd.R_types HO241.out BK249.out (by decide)) (fun _ hk => hk.2) (.slice Ao71 t243.length co71)) (fun _ hk => hk.2) (.slice Ao77 t246.length co77)) (fun _ h_ => h_.1))))) (Kd.R_lt (by (with_reducible repeat (first | apply Kd.R_alloc | apply Kd.R_drewN | apply Kd.R_drew)); exact (Kd.R_mono (Kd.R_far (p := ⟨gb249, 1, none⟩) (Kd.R_far (p := ⟨gb249, 0, none⟩) (Kd.R_types HO248.out BK249.out (by decide)) (fun _ hk => hk.2) (.slice Ao71 t243.length co71)) (fun _ hk => hk.2) (.slice Ao77 t246.length co77)) (fun _ h_ => h_.1))))) (below_size (Hf_ HB))); replace HO219 := Aside0.mk (Kd.R_elder' (by (with_reducible repeat (first | apply Kd.R_alloc | apply Kd.R_drewN | apply Kd.R_drew)); exact (Kd.R_mono (Kd.R_far (p := ⟨gb249, 1, none⟩) (Kd.R_far (p := ⟨gb249, 0, none⟩) (Kd.R_types HO219.out BK249.out (by decide)) (fun _ hk => hk.2) (.slice Ao71 t243.length co71)) (fun _ hk => hk.2) (.slice Ao77 t246.length co77)) (fun _ h_ => h_.1))) (Kd.R_base ho0) hb); replace HO222 := Aside0.mk (Kd.R_elder' (by (with_reducible repeat (first | apply Kd.R_alloc | apply Kd.R_drewN | apply Kd.R_drew)); exact (Kd.R_mono (Kd.R_far (p := ⟨gb249, 1, none⟩) (Kd.R_far (p := ⟨gb249, 0, none⟩) (Kd.R_types HO222.out BK249.out (by decide)) (fun _ hk => hk.2) (.slice Ao71 t243.length co71)) (fun _ hk => hk.2) (.slice Ao77 t246.length co77)) (fun _ h_ => h_.1))) (Kd.R_base ho1) hb); replace HO225 := Aside0.mk (Kd.R_elder' (by (with_reducible repeat (first | apply Kd.R_alloc | apply Kd.R_drewN | apply Kd.R_drew)); exact (Kd.R_mono (Kd.R_far (p := ⟨gb249, 1, none⟩) (Kd.R_far (p := ⟨gb249, 0, none⟩) (Kd.R_types HO225.out BK249.out (by decide)) (fun _ hk => hk.2) (.slice Ao71 t243.length co71)) (fun _ hk => hk.2) (.slice Ao77 t246.length co77)) (fun _ h_ => h_.1))) (Kd.R_base ho0) hb); replace HO228 := Aside0.mk (Kd.R_elder' (by (with_reducible repeat (first | apply Kd.R_alloc | apply Kd.R_drewN | apply Kd.R_drew)); exact (Kd.R_mono (Kd.R_far (p := ⟨gb249, 1, none⟩) (Kd.R_far (p := ⟨gb249, 0, none⟩) (Kd.R_types HO228.out BK249.out (by decide)) (fun _ hk => hk.2) (.slice Ao71 t243.length co71)) (fun _ hk => hk.2) (.slice Ao77 t246.length co77)) (fun _ h_ => h_.1))) (Kd.R_base ho1) hb); replace HO231 := Aside0.mk (Kd.R_elder' (by (with_reducible repeat (first | apply Kd.R_alloc | apply Kd.R_drewN | apply Kd.R_drew)); exact (Kd.R_mono (Kd.R_far (p := ⟨gb249, 1, none⟩) (Kd.R_far (p := ⟨gb249, 0, none⟩) (Kd.R_types HO231.out BK249.out (by decide)) (fun _ hk => hk.2) (.slice Ao71 t243.length co71)) (fun _ hk => hk.2) (.slice Ao77 t246.length co77)) (fun _ h_ => h_.1))) (Kd.R_base ho0) hb); replace HO234 := Aside0.mk (Kd.R_elder' (by (with_reducible repeat (first | apply Kd.R_alloc | apply Kd.R_drewN | apply Kd.R_drew)); exact (Kd.R_mono (Kd.R_far (p := ⟨gb249, 1, none⟩) (Kd.R_far (p := ⟨gb249, 0, none⟩) (Kd.R_types HO234.out BK249.out (by decide)) (fun _ hk => hk.2) (.slice Ao71 t243.length co71)) (fun _ hk => hk.2) (.slice Ao77 t246.length co77)) (fun _ h_ => h_.1))) (Kd.R_base ho1) hb); replace HO238 := Aside0.mk (Kd.R_elder' (by (with_reducible repeat (first | apply Kd.R_alloc | apply Kd.R_drewN | apply Kd.R_drew)); exact (Kd.R_mono (Kd.R_far (p := ⟨gb249, 1, none⟩) (Kd.R_far (p := ⟨gb249, 0, none⟩) (Kd.R_types HO238.out BK249.out (by decide)) (fun _ hk => hk.2) (.slice Ao71 t243.length co71)) (fun _ hk => hk.2) (.slice Ao77 t246.length co77)) (fun _ h_ => h_.1))) (Kd.R_base ho0) hb); replace HO241 := Aside0.mk (Kd.R_elder' (by (with_reducible repeat (first | apply Kd.R_alloc | apply Kd.R_drewN | apply Kd.R_drew)); exact (Kd.R_mono (Kd.R_far (p := ⟨gb249, 1, none⟩) (Kd.R_far (p := ⟨gb249, 0, none⟩) (Kd.R_types HO241.out BK249.out (by decide)) (fun _ hk => hk.2) (.slice Ao71 t243.length co71)) (fun _ hk => hk.2) (.slice Ao77 t246.length co77)) (fun _ h_ => h_.1))) (Kd.R_base ho1) hb); replace HO245 := Aside0.mk (Kd.R_elder' (by (with_reducible repeat (first | apply Kd.R_alloc | apply Kd.R_drewN | apply Kd.R_drew)); exact (Kd.R_mono (Kd.R_far (p := ⟨gb249, 1, none⟩) (Kd.R_far (p := ⟨gb249, 0, none⟩) (Kd.R_types HO245.out BK249.out (by decide)) (fun _ hk => hk.2) (.slice Ao71 t243.length co71)) (fun _ hk => hk.2) (.slice Ao77 t246.length co77)) (fun _ h_ => h_.1))) (Kd.R_base ho0) hb); replace HO248 := Aside0.mk (Kd.R_elder' (by (with_reducible repeat (first | apply Kd.R_alloc | apply Kd.R_drewN | apply Kd.R_drew)); exact (Kd.R_mono (Kd.R_far (p := ⟨gb249, 1, none⟩) (Kd.R_far (p := ⟨gb249, 0, none⟩) (Kd.R_types HO248.out BK249.out (by decide)) (fun _ hk => hk.2) (.slice Ao71 t243.length co71)) (fun _ hk => hk.2) (.slice Ao77 t246.length co77)) (fun _ h_ => h_.1))) (Kd.R_base ho1) hb); replace BK213 := Aside0.mk (blk_below (g := gb213) (o := .cells #[.slice A0_0 l0_0.length c0_0, .slice A0_1 l0_1.length c0_1] 25 (0, 0)) (by (with_reducible repeat (first | refine blk_drewN ?_ _ | refine blk_drew ?_ | refine blk_alloc ?_ _)); refine blk_far ?_ NB213_249.out _; (with_reducible repeat (first | refine blk_drewN ?_ _ | refine blk_drew ?_ | refine blk_alloc ?_ _)); refine blk_far ?_ NB213_249.out _; (with_reducible repeat (first | refine blk_drewN ?_ _ | refine blk_drew ?_ | refine blk_alloc ?_ _)); exact BK213.out) hb); replace BK214 := Aside0.mk (blk_below (g := gb214) (o := .cells #[.slice A1_0 l1_0.length c1_0, .slice A1_1 l1_1.length c1_1] 25 (0, 0)) (by (with_reducible repeat (first | refine blk_drewN ?_ _ | refine blk_drew ?_ | refine blk_alloc ?_ _)); refine blk_far ?_ NB214_249.out _; (with_reducible repeat (first | refine blk_drewN ?_ _ | refine blk_drew ?_ | refine blk_alloc ?_ _)); refine blk_far ?_ NB214_249.out _; (with_reducible repeat (first | refine blk_drewN ?_ _ | refine blk_drew ?_ | refine blk_alloc ?_ _)); exact BK214.out) hb); replace BK235 := Aside0.mk (blk_below (g := gb235) (o := .cells #[.slice Ao53 t229.length co53, .slice Ao55 t232.length co55] 28 (0, 0)) (by (with_reducible repeat (first | refine blk_drewN ?_ _ | refine blk_drew ?_ | refine blk_alloc ?_ _)); refine blk_far ?_ NB235_249.out _; (with_reducible repeat (first | refine blk_drewN ?_ _ | refine blk_drew ?_ | refine blk_alloc ?_ _)); refine blk_far ?_ NB235_249.out _; (with_reducible repeat (first | refine blk_drewN ?_ _ | refine blk_drew ?_ | refine blk_alloc ?_ _)); exact BK235.out) hb); replace BK242 := Aside0.mk (blk_below (g := gb242) (o := .cells #[.slice Ao61 t236.length co61, .slice Ao66 t239.length co66] 28 (0, 0)) (by (with_reducible repeat (first | refine blk_drewN ?_ _ | refine blk_drew ?_ | refine blk_alloc ?_ _)); refine blk_far ?_ NB242_249.out _; (with_reducible repeat (first | refine blk_drewN ?_ _ | refine blk_drew ?_ | refine blk_alloc ?_ _)); refine blk_far ?_ NB242_249.out _; (with_reducible repeat (first | refine blk_drewN ?_ _ | refine blk_drew ?_ | refine blk_alloc ?_ _)); exact BK242.out) hb); replace BK249 := Aside0.mk (blk_below (g := gb249) (o := .cells #[.slice Ao71 t243.length co71, .slice Ao77 t246.length co77] 28 (0, 0)) (by (with_reducible repeat (first | refine blk_drewN ?_ _ | refine blk_drew ?_ | refine blk_alloc ?_ _)); refine blk_put (cs := #[.slice Ao71 t243.length co71, .slice none 0 0]) ?_ 1 _ rfl; (with_reducible repeat (first | refine blk_drewN ?_ _ | refine blk_drew ?_ | refine blk_alloc ?_ _)); refine blk_put (cs := #[.slice none 0 0, .slice none 0 0]) ?_ 0 _ rfl; (with_reducible repeat (first | refine blk_drewN ?_ _ | refine blk_drew ?_ | refine blk_alloc ?_ _)); exact BK249.out) hb); replace HB := Hs_ HB hb; (try clear hb); (try clear hb2); (try clear hk); (try clear hi); (try clear ho0); (try clear ho1)) | ((with_reducible refine gate_dst (N := 9) rfl ?_); refine box_event ?hg (N := 9) ?hd (cs := #[.slice none 0 0, .slice none 0 0]) (t := 28) ?hr ?_; (case hd => rfl); (case hg => rfl); (case hr => first | (go_simp; done) | (go_simp; rfl)); intro gb256 hg w80 hbox hb; have BK256 := Aside0.mk (hbox); have GW256 := Hg_ HB hg; have GE256 := GW256; have NB213_256 := Bl_ BK213 hg; have NB256_213 := Bm_ NB213_256; have NB214_256 := Bl_ BK214 hg; have NB256_214 := Bm_ NB214_256; have NB235_256 := Bl_ BK235 hg; have NB256_235 := Bm_ NB235_256; have NB242_256 := Bl_ BK242 hg; have NB256_242 := Bm_ NB242_256; have NB249_256 := Bl_ BK249 hg; have NB256_249 := Bm_ NB249_256; replace HO219 := Rb_ HO219 hb; replace HO222 := Rb_ HO222 hb; replace HO225 := Rb_ HO225 hb; replace HO228 := Rb_ HO228 hb; replace HO231 := Rb_ HO231 hb; replace HO234 := Rb_ HO234 hb; replace HO238 := Rb_ HO238 hb; replace HO241 := Rb_ HO241 hb; replace HO245 := Rb_ HO245 hb; replace HO248 := Rb_ HO248 hb; replace HO252 := Rb_ HO252 hb; replace HO255 := Rb_ HO255 hb; replace BK213 := Bb_ BK213 hb; replace BK214 := Bb_ BK214 hb; replace BK235 := Bb_ BK235 hb; replace BK242 := Bb_ BK242 hb; replace BK249 := Bb_ BK249 hb; replace HB := Hs_ HB hb; clear hb hbox hg; obtain ⟨Ao81, co81, eo81⟩ := Kd.R_slice HO252.out; subst eo81; have hnb82 := NB256_213.out; have hnc82 := NB213_256.out; have hnb83 := NB256_214.out; have hnc83 := NB214_256.out; have hnb84 := NB256_235.out; have hnc84 := NB235_256.out; have hnb85 := NB256_242.out; have hnc85 := NB242_256.out; have hnb86 := NB256_249.out; have hnc86 := NB249_256.out; obtain ⟨hcz87_0, hcz87_1, hfz87_0, hfz87_1⟩ := Bc2_ BK256; obtain ⟨Ao88, co88, eo88⟩ := Kd.R_slice HO255.out; subst eo88; obtain ⟨hcz89_0, hcz89_1, hfz89_0, hfz89_1⟩ := Bc2_ BK235) | ((with_reducible refine gate_callee (f := 17) rfl ?_); refine goesL_ (some 38) rfl rfl Try.func17 (by kernel_rfl) rfl #[.agg #[.slice Ao81 t250.length co81, .slice Ao88 t253.length co88], .agg #[.slice Ao53 t229.length co53, .slice Ao55 t232.length co55]] rfl Mp_ ?_; (with_reducible refine (laws_eqEnv.calls k _ _ t250 _ _ t253 _ _ t229 _ _ t232 true _ ?side1 ?side2 ?side3 ?side4 ?side5 ?side6 ?side7 ?side8 A25.out).mono ?_); (case side1 => refine (Kd.R_reads' (e := 9) (base := w.heap.size) (ok := fun k_ => (((((True ∧ some k_ ≠ (v218 : Value).ownBlock) ∧ some k_ ≠ (v224 : Value).ownBlock) ∧ some k_ ≠ (.slice Ao53 t229.length co53 : Value).ownBlock) ∧ some k_ ≠ (.slice Ao61 t236.length co61 : Value).ownBlock) ∧ some k_ ≠ (.slice Ao71 t243.length co71 : Value).ownBlock)) (n := t250.length) (c := co81) ?_).2.2; exact (by (with_reducible repeat (first | apply Kd.R_alloc | apply Kd.R_drewN | apply Kd.R_drew)); exact (Kd.R_mono (Kd.R_far (p := ⟨gb256, 1, none⟩) (Kd.R_far (p := ⟨gb256, 0, none⟩) (Kd.R_types HO252.out BK256.out (by decide)) (fun _ hk => hk.2) (.slice Ao81 t250.length co81)) (fun _ hk => hk.2) (.slice Ao88 t253.length co88)) (fun _ h_ => h_.1)))); (case side2 => exact (Kd.R_reads' HO252.out).2.1); (case side3 => refine (Kd.R_reads' (e := 3) (base := w.heap.size) (ok := fun k_ => (((((True ∧ some k_ ≠ (v221 : Value).ownBlock) ∧ some k_ ≠ (v227 : Value).ownBlock) ∧ some k_ ≠ (.slice Ao55 t232.length co55 : Value).ownBlock) ∧ some k_ ≠ (.slice Ao66 t239.length co66 : Value).ownBlock) ∧ some k_ ≠ (.slice Ao77 t246.length co77 : Value).ownBlock)) (n := t253.length) (c := co88) ?_).2.2; exact (by (with_reducible repeat (first | apply Kd.R_alloc | apply Kd.R_drewN | apply Kd.R_drew)); exact (Kd.R_mono (Kd.R_far (p := ⟨gb256, 1, none⟩) (Kd.R_far (p := ⟨gb256, 0, none⟩) (Kd.R_types HO255.out BK256.out (by decide)) (fun _ hk => hk.2) (.slice Ao81 t250.length co81)) (fun _ hk => hk.2) (.slice Ao88 t253.length co88)) (fun _ h_ => h_.1)))); (case side4 => exact (Kd.R_reads' HO255.out).2.1); (case side5 => refine (Kd.R_reads' (e := 9) (base := w.heap.size) (ok := fun k_ => ((((some k_ ≠ (v218 : Value).ownBlock ∧ some k_ ≠ (v224 : Value).ownBlock) ∧ some k_ ≠ (.slice Ao61 t236.length co61 : Value).ownBlock) ∧ some k_ ≠ (.slice Ao71 t243.length co71 : Value).ownBlock) ∧ some k_ ≠ (.slice Ao81 t250.length co81 : Value).ownBlock)) (n := t229.length) (c := co53) ?_).2.2; exact (by (with_reducible repeat (first | apply Kd.R_alloc | apply Kd.R_drewN | apply Kd.R_drew)); exact (Kd.R_mono (Kd.R_far (p := ⟨gb256, 1, none⟩) (Kd.R_far (p := ⟨gb256, 0, none⟩) (Kd.R_types HO231.out BK256.out (by decide)) (fun _ hk => hk.2) (.slice Ao81 t250.length co81)) (fun _ hk => hk.2) (.slice Ao88 t253.length co88)) (fun _ h_ => h_.1)))); (case side6 => exact (Kd.R_reads' HO231.out).2.1); (case side7 => refine (Kd.R_reads' (e := 3) (base := w.heap.size) (ok := fun k_ => ((((some k_ ≠ (v221 : Value).ownBlock ∧ some k_ ≠ (v227 : Value).ownBlock) ∧ some k_ ≠ (.slice Ao66 t239.length co66 : Value).ownBlock) ∧ some k_ ≠ (.slice Ao77 t246.length co77 : Value).ownBlock) ∧ some k_ ≠ (.slice Ao88 t253.length co88 : Value).ownBlock)) (n := t232.length) (c := co55) ?_).2.2; exact (by (with_reducible repeat (first | apply Kd.R_alloc | apply Kd.R_drewN | apply Kd.R_drew)); exact (Kd.R_mono (Kd.R_far (p := ⟨gb256, 1, none⟩) (Kd.R_far (p := ⟨gb256, 0, none⟩) (Kd.R_types HO234.out BK256.out (by decide)) (fun _ hk => hk.2) (.slice Ao81 t250.length co81)) (fun _ hk => hk.2) (.slice Ao88 t253.length co88)) (fun _ h_ => h_.1)))); (case side8 => exact (Kd.R_reads' HO234.out).2.1); rintro e w90 ⟨rfl, hb⟩; refine ⟨_, rfl, ?_⟩; replace HO219 := Aside0.mk (Kd.R_below (by (with_reducible repeat (first | apply Kd.R_alloc | apply Kd.R_drewN | apply Kd.R_drew)); exact (Kd.R_mono (Kd.R_far (p := ⟨gb256, 1, none⟩) (Kd.R_far (p := ⟨gb256, 0, none⟩) (Kd.R_types HO219.out BK256.out (by decide)) (fun _ hk => hk.2) (.slice Ao81 t250.length co81)) (fun _ hk => hk.2) (.slice Ao88 t253.length co88)) (fun _ h_ => h_.1))) hb); replace HO222 := Aside0.mk (Kd.R_below (by (with_reducible repeat (first | apply Kd.R_alloc | apply Kd.R_drewN | apply Kd.R_drew)); exact (Kd.R_mono (Kd.R_far (p := ⟨gb256, 1, none⟩) (Kd.R_far (p := ⟨gb256, 0, none⟩) (Kd.R_types HO222.out BK256.out (by decide)) (fun _ hk => hk.2) (.slice Ao81 t250.length co81)) (fun _ hk => hk.2) (.slice Ao88 t253.length co88)) (fun _ h_ => h_.1))) hb); replace HO225 := Aside0.mk (Kd.R_below (by (with_reducible repeat (first | apply Kd.R_alloc | apply Kd.R_drewN | apply Kd.R_drew)); exact (Kd.R_mono (Kd.R_far (p := ⟨gb256, 1, none⟩) (Kd.R_far (p := ⟨gb256, 0, none⟩) (Kd.R_types HO225.out BK256.out (by decide)) (fun _ hk => hk.2) (.slice Ao81 t250.length co81)) (fun _ hk => hk.2) (.slice Ao88 t253.length co88)) (fun _ h_ => h_.1))) hb); replace HO228 := Aside0.mk (Kd.R_below (by (with_reducible repeat (first | apply Kd.R_alloc | apply Kd.R_drewN | apply Kd.R_drew)); exact (Kd.R_mono (Kd.R_far (p := ⟨gb256, 1, none⟩) (Kd.R_far (p := ⟨gb256, 0, none⟩) (Kd.R_types HO228.out BK256.out (by decide)) (fun _ hk => hk.2) (.slice Ao81 t250.length co81)) (fun _ hk => hk.2) (.slice Ao88 t253.length co88)) (fun _ h_ => h_.1))) hb); replace HO231 := Aside0.mk (Kd.R_below (by (with_reducible repeat (first | apply Kd.R_alloc | apply Kd.R_drewN | apply Kd.R_drew)); exact (Kd.R_mono (Kd.R_far (p := ⟨gb256, 1, none⟩) (Kd.R_far (p := ⟨gb256, 0, none⟩) (Kd.R_types HO231.out BK256.out (by decide)) (fun _ hk => hk.2) (.slice Ao81 t250.length co81)) (fun _ hk => hk.2) (.slice Ao88 t253.length co88)) (fun _ h_ => h_.1))) hb); replace HO234 := Aside0.mk (Kd.R_below (by (with_reducible repeat (first | apply Kd.R_alloc | apply Kd.R_drewN | apply Kd.R_drew)); exact (Kd.R_mono (Kd.R_far (p := ⟨gb256, 1, none⟩) (Kd.R_far (p := ⟨gb256, 0, none⟩) (Kd.R_types HO234.out BK256.out (by decide)) (fun _ hk => hk.2) (.slice Ao81 t250.length co81)) (fun _ hk => hk.2) (.slice Ao88 t253.length co88)) (fun _ h_ => h_.1))) hb); replace HO238 := Aside0.mk (Kd.R_below (by (with_reducible repeat (first | apply Kd.R_alloc | apply Kd.R_drewN | apply Kd.R_drew)); exact (Kd.R_mono (Kd.R_far (p := ⟨gb256, 1, none⟩) (Kd.R_far (p := ⟨gb256, 0, none⟩) (Kd.R_types HO238.out BK256.out (by decide)) (fun _ hk => hk.2) (.slice Ao81 t250.length co81)) (fun _ hk => hk.2) (.slice Ao88 t253.length co88)) (fun _ h_ => h_.1))) hb); replace HO241 := Aside0.mk (Kd.R_below (by (with_reducible repeat (first | apply Kd.R_alloc | apply Kd.R_drewN | apply Kd.R_drew)); exact (Kd.R_mono (Kd.R_far (p := ⟨gb256, 1, none⟩) (Kd.R_far (p := ⟨gb256, 0, none⟩) (Kd.R_types HO241.out BK256.out (by decide)) (fun _ hk => hk.2) (.slice Ao81 t250.length co81)) (fun _ hk => hk.2) (.slice Ao88 t253.length co88)) (fun _ h_ => h_.1))) hb); replace HO245 := Aside0.mk (Kd.R_below (by (with_reducible repeat (first | apply Kd.R_alloc | apply Kd.R_drewN | apply Kd.R_drew)); exact (Kd.R_mono (Kd.R_far (p := ⟨gb256, 1, none⟩) (Kd.R_far (p := ⟨gb256, 0, none⟩) (Kd.R_types HO245.out BK256.out (by decide)) (fun _ hk => hk.2) (.slice Ao81 t250.length co81)) (fun _ hk => hk.2) (.slice Ao88 t253.length co88)) (fun _ h_ => h_.1))) hb); replace HO248 := Aside0.mk (Kd.R_below (by (with_reducible repeat (first | apply Kd.R_alloc | apply Kd.R_drewN | apply Kd.R_drew)); exact (Kd.R_mono (Kd.R_far (p := ⟨gb256, 1, none⟩) (Kd.R_far (p := ⟨gb256, 0, none⟩) (Kd.R_types HO248.out BK256.out (by decide)) (fun _ hk => hk.2) (.slice Ao81 t250.length co81)) (fun _ hk => hk.2) (.slice Ao88 t253.length co88)) (fun _ h_ => h_.1))) hb); replace HO252 := Aside0.mk (Kd.R_below (by (with_reducible repeat (first | apply Kd.R_alloc | apply Kd.R_drewN | apply Kd.R_drew)); exact (Kd.R_mono (Kd.R_far (p := ⟨gb256, 1, none⟩) (Kd.R_far (p := ⟨gb256, 0, none⟩) (Kd.R_types HO252.out BK256.out (by decide)) (fun _ hk => hk.2) (.slice Ao81 t250.length co81)) (fun _ hk => hk.2) (.slice Ao88 t253.length co88)) (fun _ h_ => h_.1))) hb); replace HO255 := Aside0.mk (Kd.R_below (by (with_reducible repeat (first | apply Kd.R_alloc | apply Kd.R_drewN | apply Kd.R_drew)); exact (Kd.R_mono (Kd.R_far (p := ⟨gb256, 1, none⟩) (Kd.R_far (p := ⟨gb256, 0, none⟩) (Kd.R_types HO255.out BK256.out (by decide)) (fun _ hk => hk.2) (.slice Ao81 t250.length co81)) (fun _ hk => hk.2) (.slice Ao88 t253.length co88)) (fun _ h_ => h_.1))) hb); replace BK213 := Aside0.mk (blk_below (g := gb213) (o := .cells #[.slice A0_0 l0_0.length c0_0, .slice A0_1 l0_1.length c0_1] 25 (0, 0)) (by (with_reducible repeat (first | refine blk_drewN ?_ _ | refine blk_drew ?_ | refine blk_alloc ?_ _)); refine blk_far ?_ NB213_256.out _; (with_reducible repeat (first | refine blk_drewN ?_ _ | refine blk_drew ?_ | refine blk_alloc ?_ _)); refine blk_far ?_ NB213_256.out _; (with_reducible repeat (first | refine blk_drewN ?_ _ | refine blk_drew ?_ | refine blk_alloc ?_ _)); exact BK213.out) hb); replace BK214 := Aside0.mk (blk_below (g := gb214) (o := .cells #[.slice A1_0 l1_0.length c1_0, .slice A1_1 l1_1.length c1_1] 25 (0, 0)) (by (with_reducible repeat (first | refine blk_drewN ?_ _ | refine blk_drew ?_ | refine blk_alloc ?_ _)); refine blk_far ?_ NB214_256.out _; (with_reducible repeat (first | refine blk_drewN ?_ _ | refine blk_drew ?_ | refine blk_alloc ?_ _)); refine blk_far ?_ NB214_256.out _; (with_reducible repeat (first | refine blk_drewN ?_ _ | refine blk_drew ?_ | refine blk_alloc ?_ _)); exact BK214.out) hb); replace BK235 := Aside0.mk (blk_below (g := gb235) (o := .cells #[.slice Ao53 t229.length co53, .slice Ao55 t232.length co55] 28 (0, 0)) (by (with_reducible repeat (first | refine blk_drewN ?_ _ | refine blk_drew ?_ | refine blk_alloc ?_ _)); refine blk_far ?_ NB235_256.out _; (with_reducible repeat (first | refine blk_drewN ?_ _ | refine blk_drew ?_ | refine blk_alloc ?_ _)); refine blk_far ?_ NB235_256.out _; (with_reducible repeat (first | refine blk_drewN ?_ _ | refine blk_drew ?_ | refine blk_alloc ?_ _)); exact BK235.out) hb); replace BK242 := Aside0.mk (blk_below (g := gb242) (o := .cells #[.slice Ao61 t236.length co61, .slice Ao66 t239.length co66] 28 (0, 0)) (by (with_reducible repeat (first | refine blk_drewN ?_ _ | refine blk_drew ?_ | refine blk_alloc ?_ _)); refine blk_far ?_ NB242_256.out _; (with_reducible repeat (first | refine blk_drewN ?_ _ | refine blk_drew ?_ | refine blk_alloc ?_ _)); refine blk_far ?_ NB242_256.out _; (with_reducible repeat (first | refine blk_drewN ?_ _ | refine blk_drew ?_ | refine blk_alloc ?_ _)); exact BK242.out) hb); replace BK249 := Aside0.mk (blk_below (g := gb249) (o := .cells #[.slice Ao71 t243.length co71, .slice Ao77 t246.length co77] 28 (0, 0)) (by (with_reducible repeat (first | refine blk_drewN ?_ _ | refine blk_drew ?_ | refine blk_alloc ?_ _)); refine blk_far ?_ NB249_256.out _; (with_reducible repeat (first | refine blk_drewN ?_ _ | refine blk_drew ?_ | refine blk_alloc ?_ _)); refine blk_far ?_ NB249_256.out _; (with_reducible repeat (first | refine blk_drewN ?_ _ | refine blk_drew ?_ | refine blk_alloc ?_ _)); exact BK249.out) hb); replace BK256 := Aside0.mk (blk_below (g := gb256) (o := .cells #[.slice Ao81 t250.length co81, .slice Ao88 t253.length co88] 28 (0, 0)) (by (with_reducible repeat (first | refine blk_drewN ?_ _ | refine blk_drew ?_ | refine blk_alloc ?_ _)); refine blk_put (cs := #[.slice Ao81 t250.length co81, .slice none 0 0]) ?_ 1 _ rfl; (with_reducible repeat (first | refine blk_drewN ?_ _ | refine blk_drew ?_ | refine blk_alloc ?_ _)); refine blk_put (cs := #[.slice none 0 0, .slice none 0 0]) ?_ 0 _ rfl; (with_reducible repeat (first | refine blk_drewN ?_ _ | refine blk_drew ?_ | refine blk_alloc ?_ _)); exact BK256.out) hb); replace HB := Hs_ HB hb; (try clear hb); (try clear hb2); (try clear hk); (try clear hi)))
      replace HO219 := Aside0.mk (Kd.R_drew HO219.out); replace HO222 := Aside0.mk (Kd.R_drew HO222.out); replace HO225 := Aside0.mk (Kd.R_drew HO225.out); replace HO228 := Aside0.mk (Kd.R_drew HO228.out); replace HO231 := Aside0.mk (Kd.R_drew HO231.out); replace HO234 := Aside0.mk (Kd.R_drew HO234.out); replace HO238 := Aside0.mk (Kd.R_drew HO238.out); replace HO241 := Aside0.mk (Kd.R_drew HO241.out); replace HO245 := Aside0.mk (Kd.R_drew HO245.out); replace HO248 := Aside0.mk (Kd.R_drew HO248.out); replace HO252 := Aside0.mk (Kd.R_drew HO252.out); replace HO255 := Aside0.mk (Kd.R_drew HO255.out); replace BK213 := Aside0.mk (blk_drew BK213.out); replace BK214 := Aside0.mk (blk_drew BK214.out); replace BK235 := Aside0.mk (blk_drew BK235.out); replace BK242 := Aside0.mk (blk_drew BK242.out); replace BK249 := Aside0.mk (blk_drew BK249.out); replace BK256 := Aside0.mk (blk_drew BK256.out); replace HB := Aside0.mk (below_drew1 HB.out)
      refine start_ (n := 5) (S := fun w' => w'.cell? ⟨gb242, 0, none⟩ = some (.slice Ao61 t236.length co61) ∧ w'.cell? ⟨gb242, 1, none⟩ = some (.slice Ao66 t239.length co66) ∧ w'.cell? ⟨gb213, 0, none⟩ = some (.slice A0_0 l0_0.length c0_0) ∧ w'.cell? ⟨gb213, 1, none⟩ = some (.slice A0_1 l0_1.length c0_1)) (ds := []) #[false, false, false, false, false] (by kernel_rfl) rfl rfl ⟨(blk_cell BK242.out 0).trans rfl, (blk_cell BK242.out 1).trans rfl, (blk_cell BK213.out 0).trans rfl, (blk_cell BK213.out 1).trans rfl⟩ (fun hHeld => ?_)
      generalize w90.drew = w91 at HO219 HO222 HO225 HO228 HO231 HO234 HO238 HO241 HO245 HO248 HO252 HO255 BK213 BK214 BK235 BK242 BK249 BK256 HB hHeld ⊢
      refine take_ (i := 0) (N := some 40) (v := ?_) (a' := ?_) #[true, false, false, false, false] rfl rfl (by kernel_rfl) (fun _ _ _ h => h) (Or.inl ⟨by rfl, ?_⟩) hHeld ?_ ?_
      rotate_left
      ·rintro w' ⟨s0, s1, s2, s3⟩
       go_simp
       with_reducible rfl
      rotate_left
      ·simp only [Act.put, List.setIfInBounds_toArray, List.set_cons_zero, List.set_cons_succ, i64_w, i32_w]
       rfl
      refine take_ (i := 1) (N := some 41) (v := ?_) (a' := ?_) #[true, true, false, false, false] rfl rfl (by kernel_rfl) (fun _ _ _ h => h) (Or.inl ⟨by rfl, ?_⟩) hHeld ?_ ?_
      rotate_left
      ·rintro w' ⟨s0, s1, s2, s3⟩
       go_simp
       with_reducible rfl
      rotate_left
      ·simp only [Act.put, List.setIfInBounds_toArray, List.set_cons_zero, List.set_cons_succ, i64_w, i32_w]
       rfl
      refine one_ (i := 2) (N := some 42) #[true, true, true, false, false] rfl rfl (by kernel_rfl) (by decide) (fun K hK => ?_)
      refine goes_ Try.func15 (by kernel_rfl) rfl #[.agg #[.slice A0_0 l0_0.length c0_0, .slice A0_1 l0_1.length c0_1]] (by rfl) rfl rfl Mp_ ?_
      with_reducible refine (laws_toEnv.calls k _ _ l0_0 _ _ l0_1 t258 t261 _ ?side1 ?side2 ?side3 ?side4 A27.out).mono ?_
      (case side1 => exact Sc_ HR0_0 HB)
      (case side2 => exact HC0_0.out)
      (case side3 => exact Sc_ HR0_1 HB)
      (case side4 => exact HC0_1.out)
      rintro e w92 ⟨v259, v262, rfl, ho0, ho1, hb⟩
      refine ⟨_, rfl, ?_⟩
      have HO260 := Aside0.mk (Kd.R_lower (Kd.R_new' (Kd.R_new' (Kd.R_new' (Kd.R_new' (Kd.R_new' (Kd.R_new' ho0 (Kd.R_lt (Rq_ HO219))) (Kd.R_lt (Rq_ HO225))) (Kd.R_lt (Rq_ HO231))) (Kd.R_lt (Rq_ HO238))) (Kd.R_lt (Rq_ HO245))) (Kd.R_lt (Rq_ HO252))) (below_size (Hf_ HB))); have HO263 := Aside0.mk (Kd.R_lower (Kd.R_new' (Kd.R_new' (Kd.R_new' (Kd.R_new' (Kd.R_new' (Kd.R_new' ho1 (Kd.R_lt (Rq_ HO222))) (Kd.R_lt (Rq_ HO228))) (Kd.R_lt (Rq_ HO234))) (Kd.R_lt (Rq_ HO241))) (Kd.R_lt (Rq_ HO248))) (Kd.R_lt (Rq_ HO255))) (below_size (Hf_ HB))); replace HO219 := Rl_ HO219 ho0 hb; replace HO222 := Rl_ HO222 ho1 hb; replace HO225 := Rl_ HO225 ho0 hb; replace HO228 := Rl_ HO228 ho1 hb; replace HO231 := Rl_ HO231 ho0 hb; replace HO234 := Rl_ HO234 ho1 hb; replace HO238 := Rl_ HO238 ho0 hb; replace HO241 := Rl_ HO241 ho1 hb; replace HO245 := Rl_ HO245 ho0 hb; replace HO248 := Rl_ HO248 ho1 hb; replace HO252 := Rl_ HO252 ho0 hb; replace HO255 := Rl_ HO255 ho1 hb; replace BK213 := Bb_ BK213 hb; replace BK214 := Bb_ BK214 hb; replace BK235 := Bb_ BK235 hb; replace BK242 := Bb_ BK242 hb; replace BK249 := Bb_ BK249 hb; replace BK256 := Bb_ BK256 hb; replace HB := Hs_ HB hb
      (try clear hb)
      (try clear hb2)
      (try clear hk)
      (try clear hi)
      (try clear ho0)
      (try clear ho1)
      obtain ⟨Ao93, co93, eo93⟩ := Kd.R_slice HO260.out
      (first | subst eo93 | (injection eo93 with f1_ f2_ f3_; have f4_ := f1_.symm; have f5_ := f3_.symm; clear f1_ f2_ f3_; subst f4_; subst f5_))
      obtain ⟨Ao94, co94, eo94⟩ := Kd.R_slice HO263.out
      (first | subst eo94 | (injection eo94 with f1_ f2_ f3_; have f4_ := f1_.symm; have f5_ := f3_.symm; clear f1_ f2_ f3_; subst f4_; subst f5_))
      refine hK.out _ _ ⟨(blk_cell BK242.out 0).trans rfl, (blk_cell BK242.out 1).trans rfl, (blk_cell BK213.out 0).trans rfl, (blk_cell BK213.out 1).trans rfl⟩ (fun hHeld => ?_)
      clear hK K
      refine norm_ (a' := ?_) ?_ ?_
      rotate_left
      ·show Act.put _ (some 42) _ = _
       simp only [Act.put, List.setIfInBounds_toArray, List.set_cons_zero, List.set_cons_succ, i64_w, i32_w]
       rfl
      refine one_ (i := 3) (N := some 43) #[true, true, true, true, false] rfl rfl (by kernel_rfl) (by decide) (fun K hK => ?_)
      refine goes_ Try.func17 (by kernel_rfl) rfl #[.agg #[.slice Ao61 t236.length co61, .slice Ao66 t239.length co66], .agg #[.slice Ao93 t258.length co93, .slice Ao94 t261.length co94]] (by rfl) rfl rfl Mp_ ?_
      with_reducible refine (laws_eqEnv.calls k _ _ t236 _ _ t239 _ _ t258 _ _ t261 true _ ?side1 ?side2 ?side3 ?side4 ?side5 ?side6 ?side7 ?side8 A28.out).mono ?_
      (case side1 => exact Cq_ (Kd.R_reads' HO238.out).2.2)
      (case side2 => exact (Kd.R_reads' HO238.out).2.1)
      (case side3 => exact Cq_ (Kd.R_reads' HO241.out).2.2)
      (case side4 => exact (Kd.R_reads' HO241.out).2.1)
      (case side5 => exact Cq_ (Kd.R_reads' HO260.out).2.2)
      (case side6 => exact (Kd.R_reads' HO260.out).2.1)
      (case side7 => exact Cq_ (Kd.R_reads' HO263.out).2.2)
      (case side8 => exact (Kd.R_reads' HO263.out).2.1)
      rintro e w95 ⟨rfl, hb⟩
      refine ⟨_, rfl, ?_⟩
      replace HO219 := Rb_ HO219 hb; replace HO222 := Rb_ HO222 hb; replace HO225 := Rb_ HO225 hb; replace HO228 := Rb_ HO228 hb; replace HO231 := Rb_ HO231 hb; replace HO234 := Rb_ HO234 hb; replace HO238 := Rb_ HO238 hb; replace HO241 := Rb_ HO241 hb; replace HO245 := Rb_ HO245 hb; replace HO248 := Rb_ HO248 hb; replace HO252 := Rb_ HO252 hb; replace HO255 := Rb_ HO255 hb; replace HO260 := Rb_ HO260 hb; replace HO263 := Rb_ HO263 hb; replace BK213 := Bb_ BK213 hb; replace BK214 := Bb_ BK214 hb; replace BK235 := Bb_ BK235 hb; replace BK242 := Bb_ BK242 hb; replace BK249 := Bb_ BK249 hb; replace BK256 := Bb_ BK256 hb; replace HB := Hs_ HB hb
      (try clear hb)
      (try clear hb2)
      (try clear hk)
      (try clear hi)
      refine hK.out _ _ ⟨(blk_cell BK242.out 0).trans rfl, (blk_cell BK242.out 1).trans rfl, (blk_cell BK213.out 0).trans rfl, (blk_cell BK213.out 1).trans rfl⟩ (fun hHeld => ?_)
      clear hK K
      refine norm_ (a' := ?_) ?_ ?_
      rotate_left
      ·show Act.put _ (some 43) _ = _
       simp only [Act.put, List.setIfInBounds_toArray, List.set_cons_zero, List.set_cons_succ, i64_w, i32_w]
       rfl
      refine pure_ (i := 4) (N := some 44) (v := ?_) (a' := ?_) #[true, true, true, true, true] rfl rfl (by kernel_rfl) (fun _ _ _ h => h) (Or.inl ⟨by rfl, ?_⟩) ?_ ?_
      rotate_left
      ·intro w'
       go_simp
       with_reducible rfl
      rotate_left
      ·simp only [Act.put, List.setIfInBounds_toArray, List.set_cons_zero, List.set_cons_succ, i64_w, i32_w]
       rfl
      refine done_ (by kernel_rfl) ?_
      try go_wp2
      replace HO219 := Aside0.mk (Kd.R_drew HO219.out); replace HO222 := Aside0.mk (Kd.R_drew HO222.out); replace HO225 := Aside0.mk (Kd.R_drew HO225.out); replace HO228 := Aside0.mk (Kd.R_drew HO228.out); replace HO231 := Aside0.mk (Kd.R_drew HO231.out); replace HO234 := Aside0.mk (Kd.R_drew HO234.out); replace HO238 := Aside0.mk (Kd.R_drew HO238.out); replace HO241 := Aside0.mk (Kd.R_drew HO241.out); replace HO245 := Aside0.mk (Kd.R_drew HO245.out); replace HO248 := Aside0.mk (Kd.R_drew HO248.out); replace HO252 := Aside0.mk (Kd.R_drew HO252.out); replace HO255 := Aside0.mk (Kd.R_drew HO255.out); replace HO260 := Aside0.mk (Kd.R_drew HO260.out); replace HO263 := Aside0.mk (Kd.R_drew HO263.out); replace BK213 := Aside0.mk (blk_drew BK213.out); replace BK214 := Aside0.mk (blk_drew BK214.out); replace BK235 := Aside0.mk (blk_drew BK235.out); replace BK242 := Aside0.mk (blk_drew BK242.out); replace BK249 := Aside0.mk (blk_drew BK249.out); replace BK256 := Aside0.mk (blk_drew BK256.out); replace HB := Aside0.mk (below_drew1 HB.out)
      refine start_ (n := 5) (S := fun w' => w'.cell? ⟨gb249, 0, none⟩ = some (.slice Ao71 t243.length co71) ∧ w'.cell? ⟨gb249, 1, none⟩ = some (.slice Ao77 t246.length co77) ∧ w'.cell? ⟨gb214, 0, none⟩ = some (.slice A1_0 l1_0.length c1_0) ∧ w'.cell? ⟨gb214, 1, none⟩ = some (.slice A1_1 l1_1.length c1_1)) (ds := []) #[false, false, false, false, false] (by kernel_rfl) rfl rfl ⟨(blk_cell BK249.out 0).trans rfl, (blk_cell BK249.out 1).trans rfl, (blk_cell BK214.out 0).trans rfl, (blk_cell BK214.out 1).trans rfl⟩ (fun hHeld => ?_)
      generalize w95.drew = w96 at HO219 HO222 HO225 HO228 HO231 HO234 HO238 HO241 HO245 HO248 HO252 HO255 HO260 HO263 BK213 BK214 BK235 BK242 BK249 BK256 HB hHeld ⊢
      refine take_ (i := 0) (N := some 45) (v := ?_) (a' := ?_) #[true, false, false, false, false] rfl rfl (by kernel_rfl) (fun _ _ _ h => h) (Or.inl ⟨by rfl, ?_⟩) hHeld ?_ ?_
      rotate_left
      ·rintro w' ⟨s0, s1, s2, s3⟩
       go_simp
       with_reducible rfl
      rotate_left
      ·simp only [Act.put, List.setIfInBounds_toArray, List.set_cons_zero, List.set_cons_succ, i64_w, i32_w]
       rfl
      refine take_ (i := 1) (N := some 46) (v := ?_) (a' := ?_) #[true, true, false, false, false] rfl rfl (by kernel_rfl) (fun _ _ _ h => h) (Or.inl ⟨by rfl, ?_⟩) hHeld ?_ ?_
      rotate_left
      ·rintro w' ⟨s0, s1, s2, s3⟩
       go_simp
       with_reducible rfl
      rotate_left
      ·simp only [Act.put, List.setIfInBounds_toArray, List.set_cons_zero, List.set_cons_succ, i64_w, i32_w]
       rfl
      refine one_ (i := 2) (N := some 47) #[true, true, true, false, false] rfl rfl (by kernel_rfl) (by decide) (fun K hK => ?_)
      refine goes_ Try.func15 (by kernel_rfl) rfl #[.agg #[.slice A1_0 l1_0.length c1_0, .slice A1_1 l1_1.length c1_1]] (by rfl) rfl rfl Mp_ ?_
      with_reducible refine (laws_toEnv.calls k _ _ l1_0 _ _ l1_1 t265 t268 _ ?side1 ?side2 ?side3 ?side4 A30.out).mono ?_
      (case side1 => exact Sc_ HR1_0 HB)
      (case side2 => exact HC1_0.out)
      (case side3 => exact Sc_ HR1_1 HB)
      (case side4 => exact HC1_1.out)
      rintro e w97 ⟨v266, v269, rfl, ho0, ho1, hb⟩
      refine ⟨_, rfl, ?_⟩
      have HO267 := Aside0.mk (Kd.R_lower (Kd.R_new' (Kd.R_new' (Kd.R_new' (Kd.R_new' (Kd.R_new' (Kd.R_new' (Kd.R_new' ho0 (Kd.R_lt (Rq_ HO219))) (Kd.R_lt (Rq_ HO225))) (Kd.R_lt (Rq_ HO231))) (Kd.R_lt (Rq_ HO238))) (Kd.R_lt (Rq_ HO245))) (Kd.R_lt (Rq_ HO252))) (Kd.R_lt (Rq_ HO260))) (below_size (Hf_ HB))); have HO270 := Aside0.mk (Kd.R_lower (Kd.R_new' (Kd.R_new' (Kd.R_new' (Kd.R_new' (Kd.R_new' (Kd.R_new' (Kd.R_new' ho1 (Kd.R_lt (Rq_ HO222))) (Kd.R_lt (Rq_ HO228))) (Kd.R_lt (Rq_ HO234))) (Kd.R_lt (Rq_ HO241))) (Kd.R_lt (Rq_ HO248))) (Kd.R_lt (Rq_ HO255))) (Kd.R_lt (Rq_ HO263))) (below_size (Hf_ HB))); replace HO219 := Rl_ HO219 ho0 hb; replace HO222 := Rl_ HO222 ho1 hb; replace HO225 := Rl_ HO225 ho0 hb; replace HO228 := Rl_ HO228 ho1 hb; replace HO231 := Rl_ HO231 ho0 hb; replace HO234 := Rl_ HO234 ho1 hb; replace HO238 := Rl_ HO238 ho0 hb; replace HO241 := Rl_ HO241 ho1 hb; replace HO245 := Rl_ HO245 ho0 hb; replace HO248 := Rl_ HO248 ho1 hb; replace HO252 := Rl_ HO252 ho0 hb; replace HO255 := Rl_ HO255 ho1 hb; replace HO260 := Rl_ HO260 ho0 hb; replace HO263 := Rl_ HO263 ho1 hb; replace BK213 := Bb_ BK213 hb; replace BK214 := Bb_ BK214 hb; replace BK235 := Bb_ BK235 hb; replace BK242 := Bb_ BK242 hb; replace BK249 := Bb_ BK249 hb; replace BK256 := Bb_ BK256 hb; replace HB := Hs_ HB hb
      (try clear hb)
      (try clear hb2)
      (try clear hk)
      (try clear hi)
      (try clear ho0)
      (try clear ho1)
      obtain ⟨Ao98, co98, eo98⟩ := Kd.R_slice HO267.out
      (first | subst eo98 | (injection eo98 with f1_ f2_ f3_; have f4_ := f1_.symm; have f5_ := f3_.symm; clear f1_ f2_ f3_; subst f4_; subst f5_))
      obtain ⟨Ao99, co99, eo99⟩ := Kd.R_slice HO270.out
      (first | subst eo99 | (injection eo99 with f1_ f2_ f3_; have f4_ := f1_.symm; have f5_ := f3_.symm; clear f1_ f2_ f3_; subst f4_; subst f5_))
      refine hK.out _ _ ⟨(blk_cell BK249.out 0).trans rfl, (blk_cell BK249.out 1).trans rfl, (blk_cell BK214.out 0).trans rfl, (blk_cell BK214.out 1).trans rfl⟩ (fun hHeld => ?_)
      clear hK K
      refine norm_ (a' := ?_) ?_ ?_
      rotate_left
      ·show Act.put _ (some 47) _ = _
       simp only [Act.put, List.setIfInBounds_toArray, List.set_cons_zero, List.set_cons_succ, i64_w, i32_w]
       rfl
      refine one_ (i := 3) (N := some 48) #[true, true, true, true, false] rfl rfl (by kernel_rfl) (by decide) (fun K hK => ?_)
      refine goes_ Try.func17 (by kernel_rfl) rfl #[.agg #[.slice Ao71 t243.length co71, .slice Ao77 t246.length co77], .agg #[.slice Ao98 t265.length co98, .slice Ao99 t268.length co99]] (by rfl) rfl rfl Mp_ ?_
      with_reducible refine (laws_eqEnv.calls k _ _ t243 _ _ t246 _ _ t265 _ _ t268 true _ ?side1 ?side2 ?side3 ?side4 ?side5 ?side6 ?side7 ?side8 A31.out).mono ?_
      (case side1 => exact Cq_ (Kd.R_reads' HO245.out).2.2)
      (case side2 => exact (Kd.R_reads' HO245.out).2.1)
      (case side3 => exact Cq_ (Kd.R_reads' HO248.out).2.2)
      (case side4 => exact (Kd.R_reads' HO248.out).2.1)
      (case side5 => exact Cq_ (Kd.R_reads' HO267.out).2.2)
      (case side6 => exact (Kd.R_reads' HO267.out).2.1)
      (case side7 => exact Cq_ (Kd.R_reads' HO270.out).2.2)
      (case side8 => exact (Kd.R_reads' HO270.out).2.1)
      rintro e w100 ⟨rfl, hb⟩
      refine ⟨_, rfl, ?_⟩
      replace HO219 := Rb_ HO219 hb; replace HO222 := Rb_ HO222 hb; replace HO225 := Rb_ HO225 hb; replace HO228 := Rb_ HO228 hb; replace HO231 := Rb_ HO231 hb; replace HO234 := Rb_ HO234 hb; replace HO238 := Rb_ HO238 hb; replace HO241 := Rb_ HO241 hb; replace HO245 := Rb_ HO245 hb; replace HO248 := Rb_ HO248 hb; replace HO252 := Rb_ HO252 hb; replace HO255 := Rb_ HO255 hb; replace HO260 := Rb_ HO260 hb; replace HO263 := Rb_ HO263 hb; replace HO267 := Rb_ HO267 hb; replace HO270 := Rb_ HO270 hb; replace BK213 := Bb_ BK213 hb; replace BK214 := Bb_ BK214 hb; replace BK235 := Bb_ BK235 hb; replace BK242 := Bb_ BK242 hb; replace BK249 := Bb_ BK249 hb; replace BK256 := Bb_ BK256 hb; replace HB := Hs_ HB hb
      (try clear hb)
      (try clear hb2)
      (try clear hk)
      (try clear hi)
      refine hK.out _ _ ⟨(blk_cell BK249.out 0).trans rfl, (blk_cell BK249.out 1).trans rfl, (blk_cell BK214.out 0).trans rfl, (blk_cell BK214.out 1).trans rfl⟩ (fun hHeld => ?_)
      clear hK K
      refine norm_ (a' := ?_) ?_ ?_
      rotate_left
      ·show Act.put _ (some 48) _ = _
       simp only [Act.put, List.setIfInBounds_toArray, List.set_cons_zero, List.set_cons_succ, i64_w, i32_w]
       rfl
      refine pure_ (i := 4) (N := some 49) (v := ?_) (a' := ?_) #[true, true, true, true, true] rfl rfl (by kernel_rfl) (fun _ _ _ h => h) (Or.inl ⟨by rfl, ?_⟩) ?_ ?_
      rotate_left
      ·intro w'
       go_simp
       with_reducible rfl
      rotate_left
      ·simp only [Act.put, List.setIfInBounds_toArray, List.set_cons_zero, List.set_cons_succ, i64_w, i32_w]
       rfl
      refine done_ (by kernel_rfl) ?_
      obtain ⟨hcz101_0, hcz101_1, hfz101_0, hfz101_1⟩ := Bc2_ BK242
      go_upto_region 21 with (first | ((with_reducible refine gate_callee (f := 20) rfl ?_); refine goesL_ (some 52) rfl rfl Try.func20 (by kernel_rfl) rfl #[.agg #[.slice Ao61 t236.length co61, .slice Ao66 t239.length co66], .int .i64 1] rfl Mp_ ?_; (with_reducible refine (laws_markEnv.calls k (fun k_ => some k_ = (.slice Ao61 t236.length co61 : Value).ownBlock) (.slice Ao61 t236.length co61) t236 (fun k_ => some k_ = (.slice Ao66 t239.length co66 : Value).ownBlock) (.slice Ao66 t239.length co66) t239 1 t272 t273 t274 w _ ?side1 ?side2 ?side3 A33.out).mono ?_); (case side1 => repeat (first | (with_reducible first | exact HB.out | apply below_alloc | apply pw_below_drewN | apply below_drew1 | refine below_set ?_ GE213.out | refine below_set ?_ GE214.out | refine below_set ?_ GE235.out | refine below_set ?_ GE242.out | refine below_set ?_ GE249.out | refine below_set ?_ GE256.out) | exact HB.out)); (case side2 => exact Kd.R_tight rfl HO238.out); (case side3 => exact Kd.R_tight rfl HO241.out); rintro e w102 ⟨rfl, hy0, hy1, hb, hkp⟩; refine ⟨_, rfl, ?_⟩; have n0_ := Aside0.mk (blk_kept (Bq_ BK213) hkp (fun hs_ => Or.elim hs_ (fun e_ => (fun e_ => (Kd.R_ne HO238.out BK213.out (by decide)) e_) e_) (fun e_ => (fun e_ => (Kd.R_ne HO241.out BK213.out (by decide)) e_) e_))); have n1_ := Aside0.mk (blk_kept (Bq_ BK214) hkp (fun hs_ => Or.elim hs_ (fun e_ => (fun e_ => (Kd.R_ne HO238.out BK214.out (by decide)) e_) e_) (fun e_ => (fun e_ => (Kd.R_ne HO241.out BK214.out (by decide)) e_) e_))); have n2_ := Aside0.mk (Kd.R_mono (ok' := fun k_ => some k_ ≠ (v224 : Value).ownBlock ∧ some k_ ≠ (.slice Ao53 t229.length co53 : Value).ownBlock ∧ some k_ ≠ (.slice Ao61 t236.length co61 : Value).ownBlock ∧ some k_ ≠ (.slice Ao71 t243.length co71 : Value).ownBlock ∧ some k_ ≠ (.slice Ao81 t250.length co81 : Value).ownBlock ∧ some k_ ≠ (.slice Ao93 t258.length co93 : Value).ownBlock ∧ some k_ ≠ (.slice Ao98 t265.length co98 : Value).ownBlock) (Kd.R_keptB ((Kd.R_apart' HO219.out (Kd.R_typed HO241.out) (by decide))) hkp (fun k_ hk_ hs_ => Or.elim hs_ (fun e_ => (hk_.1.1.1.1.1.2) e_) (fun e_ => (hk_.2) e_))) (fun k_ hk_ => ⟨hk_.1.1.1.1.1.1.1.1, hk_.1.1.1.1.1.1.1.2, hk_.1.1.1.1.1.1.2, hk_.1.1.1.1.1.2, hk_.1.1.1.1.2, hk_.1.1.1.2, hk_.1.1.2⟩)); have n3_ := Aside0.mk (Kd.R_mono (ok' := fun k_ => some k_ ≠ (v227 : Value).ownBlock ∧ some k_ ≠ (.slice Ao55 t232.length co55 : Value).ownBlock ∧ some k_ ≠ (.slice Ao66 t239.length co66 : Value).ownBlock ∧ some k_ ≠ (.slice Ao77 t246.length co77 : Value).ownBlock ∧ some k_ ≠ (.slice Ao88 t253.length co88 : Value).ownBlock ∧ some k_ ≠ (.slice Ao94 t261.length co94 : Value).ownBlock ∧ some k_ ≠ (.slice Ao99 t268.length co99 : Value).ownBlock) (Kd.R_keptB ((Kd.R_apart' HO222.out (Kd.R_typed HO238.out) (by decide))) hkp (fun k_ hk_ hs_ => Or.elim hs_ (fun e_ => (hk_.2) e_) (fun e_ => (hk_.1.1.1.1.1.2) e_))) (fun k_ hk_ => ⟨hk_.1.1.1.1.1.1.1.1, hk_.1.1.1.1.1.1.1.2, hk_.1.1.1.1.1.1.2, hk_.1.1.1.1.1.2, hk_.1.1.1.1.2, hk_.1.1.1.2, hk_.1.1.2⟩)); have n4_ := Aside0.mk (Kd.R_mono (ok' := fun k_ => some k_ ≠ (v218 : Value).ownBlock ∧ some k_ ≠ (.slice Ao53 t229.length co53 : Value).ownBlock ∧ some k_ ≠ (.slice Ao61 t236.length co61 : Value).ownBlock ∧ some k_ ≠ (.slice Ao71 t243.length co71 : Value).ownBlock ∧ some k_ ≠ (.slice Ao81 t250.length co81 : Value).ownBlock ∧ some k_ ≠ (.slice Ao93 t258.length co93 : Value).ownBlock ∧ some k_ ≠ (.slice Ao98 t265.length co98 : Value).ownBlock) (Kd.R_keptB ((Kd.R_apart' HO225.out (Kd.R_typed HO241.out) (by decide))) hkp (fun k_ hk_ hs_ => Or.elim hs_ (fun e_ => (hk_.1.1.1.1.1.2) e_) (fun e_ => (hk_.2) e_))) (fun k_ hk_ => ⟨hk_.1.1.1.1.1.1.1.1, hk_.1.1.1.1.1.1.1.2, hk_.1.1.1.1.1.1.2, hk_.1.1.1.1.1.2, hk_.1.1.1.1.2, hk_.1.1.1.2, hk_.1.1.2⟩)); have n5_ := Aside0.mk (Kd.R_mono (ok' := fun k_ => some k_ ≠ (v221 : Value).ownBlock ∧ some k_ ≠ (.slice Ao55 t232.length co55 : Value).ownBlock ∧ some k_ ≠ (.slice Ao66 t239.length co66 : Value).ownBlock ∧ some k_ ≠ (.slice Ao77 t246.length co77 : Value).ownBlock ∧ some k_ ≠ (.slice Ao88 t253.length co88 : Value).ownBlock ∧ some k_ ≠ (.slice Ao94 t261.length co94 : Value).ownBlock ∧ some k_ ≠ (.slice Ao99 t268.length co99 : Value).ownBlock) (Kd.R_keptB ((Kd.R_apart' HO228.out (Kd.R_typed HO238.out) (by decide))) hkp (fun k_ hk_ hs_ => Or.elim hs_ (fun e_ => (hk_.2) e_) (fun e_ => (hk_.1.1.1.1.1.2) e_))) (fun k_ hk_ => ⟨hk_.1.1.1.1.1.1.1.1, hk_.1.1.1.1.1.1.1.2, hk_.1.1.1.1.1.1.2, hk_.1.1.1.1.1.2, hk_.1.1.1.1.2, hk_.1.1.1.2, hk_.1.1.2⟩)); have n6_ := Aside0.mk (Kd.R_mono (ok' := fun k_ => some k_ ≠ (v218 : Value).ownBlock ∧ some k_ ≠ (v224 : Value).ownBlock ∧ some k_ ≠ (.slice Ao61 t236.length co61 : Value).ownBlock ∧ some k_ ≠ (.slice Ao71 t243.length co71 : Value).ownBlock ∧ some k_ ≠ (.slice Ao81 t250.length co81 : Value).ownBlock ∧ some k_ ≠ (.slice Ao93 t258.length co93 : Value).ownBlock ∧ some k_ ≠ (.slice Ao98 t265.length co98 : Value).ownBlock) (Kd.R_keptB ((Kd.R_apart' HO231.out (Kd.R_typed HO241.out) (by decide))) hkp (fun k_ hk_ hs_ => Or.elim hs_ (fun e_ => (hk_.1.1.1.1.1.2) e_) (fun e_ => (hk_.2) e_))) (fun k_ hk_ => ⟨hk_.1.1.1.1.1.1.1.1, hk_.1.1.1.1.1.1.1.2, hk_.1.1.1.1.1.1.2, hk_.1.1.1.1.1.2, hk_.1.1.1.1.2, hk_.1.1.1.2, hk_.1.1.2⟩)); have n7_ := Aside0.mk (Kd.R_mono (ok' := fun k_ => some k_ ≠ (v221 : Value).ownBlock ∧ some k_ ≠ (v227 : Value).ownBlock ∧ some k_ ≠ (.slice Ao66 t239.length co66 : Value).ownBlock ∧ some k_ ≠ (.slice Ao77 t246.length co77 : Value).ownBlock ∧ some k_ ≠ (.slice Ao88 t253.length co88 : Value).ownBlock ∧ some k_ ≠ (.slice Ao94 t261.length co94 : Value).ownBlock ∧ some k_ ≠ (.slice Ao99 t268.length co99 : Value).ownBlock) (Kd.R_keptB ((Kd.R_apart' HO234.out (Kd.R_typed HO238.out) (by decide))) hkp (fun k_ hk_ hs_ => Or.elim hs_ (fun e_ => (hk_.2) e_) (fun e_ => (hk_.1.1.1.1.1.2) e_))) (fun k_ hk_ => ⟨hk_.1.1.1.1.1.1.1.1, hk_.1.1.1.1.1.1.1.2, hk_.1.1.1.1.1.1.2, hk_.1.1.1.1.1.2, hk_.1.1.1.1.2, hk_.1.1.1.2, hk_.1.1.2⟩)); have n8_ := Aside0.mk (blk_kept (Bq_ BK235) hkp (fun hs_ => Or.elim hs_ (fun e_ => (fun e_ => (Kd.R_ne HO238.out BK235.out (by decide)) e_) e_) (fun e_ => (fun e_ => (Kd.R_ne HO241.out BK235.out (by decide)) e_) e_))); have n9_ := Aside0.mk (Kd.R_reok rfl hy0 (fun k_ e_ => HO238.out.1 k_ e_)); have n10_ := Aside0.mk (Kd.R_reok rfl hy1 (fun k_ e_ => HO241.out.1 k_ e_)); have n11_ := Aside0.mk (blk_kept (Bq_ BK242) hkp (fun hs_ => Or.elim hs_ (fun e_ => (fun e_ => (Kd.R_ne HO238.out BK242.out (by decide)) e_) e_) (fun e_ => (fun e_ => (Kd.R_ne HO241.out BK242.out (by decide)) e_) e_))); have n12_ := Aside0.mk (Kd.R_mono (ok' := fun k_ => some k_ ≠ (v218 : Value).ownBlock ∧ some k_ ≠ (v224 : Value).ownBlock ∧ some k_ ≠ (.slice Ao53 t229.length co53 : Value).ownBlock ∧ some k_ ≠ (.slice Ao61 t236.length co61 : Value).ownBlock ∧ some k_ ≠ (.slice Ao81 t250.length co81 : Value).ownBlock ∧ some k_ ≠ (.slice Ao93 t258.length co93 : Value).ownBlock ∧ some k_ ≠ (.slice Ao98 t265.length co98 : Value).ownBlock) (Kd.R_keptB ((Kd.R_apart' HO245.out (Kd.R_typed HO241.out) (by decide))) hkp (fun k_ hk_ hs_ => Or.elim hs_ (fun e_ => (hk_.1.1.1.1.2) e_) (fun e_ => (hk_.2) e_))) (fun k_ hk_ => ⟨hk_.1.1.1.1.1.1.1.1.2, hk_.1.1.1.1.1.1.1.2, hk_.1.1.1.1.1.1.2, hk_.1.1.1.1.1.2, hk_.1.1.1.1.2, hk_.1.1.1.2, hk_.1.1.2⟩)); have n13_ := Aside0.mk (Kd.R_mono (ok' := fun k_ => some k_ ≠ (v221 : Value).ownBlock ∧ some k_ ≠ (v227 : Value).ownBlock ∧ some k_ ≠ (.slice Ao55 t232.length co55 : Value).ownBlock ∧ some k_ ≠ (.slice Ao66 t239.length co66 : Value).ownBlock ∧ some k_ ≠ (.slice Ao88 t253.length co88 : Value).ownBlock ∧ some k_ ≠ (.slice Ao94 t261.length co94 : Value).ownBlock ∧ some k_ ≠ (.slice Ao99 t268.length co99 : Value).ownBlock) (Kd.R_keptB ((Kd.R_apart' HO248.out (Kd.R_typed HO238.out) (by decide))) hkp (fun k_ hk_ hs_ => Or.elim hs_ (fun e_ => (hk_.2) e_) (fun e_ => (hk_.1.1.1.1.2) e_))) (fun k_ hk_ => ⟨hk_.1.1.1.1.1.1.1.1.2, hk_.1.1.1.1.1.1.1.2, hk_.1.1.1.1.1.1.2, hk_.1.1.1.1.1.2, hk_.1.1.1.1.2, hk_.1.1.1.2, hk_.1.1.2⟩)); have n14_ := Aside0.mk (blk_kept (Bq_ BK249) hkp (fun hs_ => Or.elim hs_ (fun e_ => (fun e_ => (Kd.R_ne HO238.out BK249.out (by decide)) e_) e_) (fun e_ => (fun e_ => (Kd.R_ne HO241.out BK249.out (by decide)) e_) e_))); have n15_ := Aside0.mk (Kd.R_mono (ok' := fun k_ => some k_ ≠ (v218 : Value).ownBlock ∧ some k_ ≠ (v224 : Value).ownBlock ∧ some k_ ≠ (.slice Ao53 t229.length co53 : Value).ownBlock ∧ some k_ ≠ (.slice Ao61 t236.length co61 : Value).ownBlock ∧ some k_ ≠ (.slice Ao71 t243.length co71 : Value).ownBlock ∧ some k_ ≠ (.slice Ao93 t258.length co93 : Value).ownBlock ∧ some k_ ≠ (.slice Ao98 t265.length co98 : Value).ownBlock) (Kd.R_keptB ((Kd.R_apart' HO252.out (Kd.R_typed HO241.out) (by decide))) hkp (fun k_ hk_ hs_ => Or.elim hs_ (fun e_ => (hk_.1.1.1.1.2) e_) (fun e_ => (hk_.2) e_))) (fun k_ hk_ => ⟨hk_.1.1.1.1.1.1.1.1.2, hk_.1.1.1.1.1.1.1.2, hk_.1.1.1.1.1.1.2, hk_.1.1.1.1.1.2, hk_.1.1.1.1.2, hk_.1.1.1.2, hk_.1.1.2⟩)); have n16_ := Aside0.mk (Kd.R_mono (ok' := fun k_ => some k_ ≠ (v221 : Value).ownBlock ∧ some k_ ≠ (v227 : Value).ownBlock ∧ some k_ ≠ (.slice Ao55 t232.length co55 : Value).ownBlock ∧ some k_ ≠ (.slice Ao66 t239.length co66 : Value).ownBlock ∧ some k_ ≠ (.slice Ao77 t246.length co77 : Value).ownBlock ∧ some k_ ≠ (.slice Ao94 t261.length co94 : Value).ownBlock ∧ some k_ ≠ (.slice Ao99 t268.length co99 : Value).ownBlock) (Kd.R_keptB ((Kd.R_apart' HO255.out (Kd.R_typed HO238.out) (by decide))) hkp (fun k_ hk_ hs_ => Or.elim hs_ (fun e_ => (hk_.2) e_) (fun e_ => (hk_.1.1.1.1.2) e_))) (fun k_ hk_ => ⟨hk_.1.1.1.1.1.1.1.1.2, hk_.1.1.1.1.1.1.1.2, hk_.1.1.1.1.1.1.2, hk_.1.1.1.1.1.2, hk_.1.1.1.1.2, hk_.1.1.1.2, hk_.1.1.2⟩)); have n17_ := Aside0.mk (blk_kept (Bq_ BK256) hkp (fun hs_ => Or.elim hs_ (fun e_ => (fun e_ => (Kd.R_ne HO238.out BK256.out (by decide)) e_) e_) (fun e_ => (fun e_ => (Kd.R_ne HO241.out BK256.out (by decide)) e_) e_))); have n18_ := Aside0.mk (Kd.R_mono (ok' := fun k_ => some k_ ≠ (v218 : Value).ownBlock ∧ some k_ ≠ (v224 : Value).ownBlock ∧ some k_ ≠ (.slice Ao53 t229.length co53 : Value).ownBlock ∧ some k_ ≠ (.slice Ao61 t236.length co61 : Value).ownBlock ∧ some k_ ≠ (.slice Ao71 t243.length co71 : Value).ownBlock ∧ some k_ ≠ (.slice Ao81 t250.length co81 : Value).ownBlock ∧ some k_ ≠ (.slice Ao98 t265.length co98 : Value).ownBlock) (Kd.R_keptB ((Kd.R_apart' HO260.out (Kd.R_typed HO241.out) (by decide))) hkp (fun k_ hk_ hs_ => Or.elim hs_ (fun e_ => (hk_.1.1.1.1.2) e_) (fun e_ => (hk_.2) e_))) (fun k_ hk_ => ⟨hk_.1.1.1.1.1.1.1.1.2, hk_.1.1.1.1.1.1.1.2, hk_.1.1.1.1.1.1.2, hk_.1.1.1.1.1.2, hk_.1.1.1.1.2, hk_.1.1.1.2, hk_.1.1.2⟩)); have n19_ := Aside0.mk (Kd.R_mono (ok' := fun k_ => some k_ ≠ (v221 : Value).ownBlock ∧ some k_ ≠ (v227 : Value).ownBlock ∧ some k_ ≠ (.slice Ao55 t232.length co55 : Value).ownBlock ∧ some k_ ≠ (.slice Ao66 t239.length co66 : Value).ownBlock ∧ some k_ ≠ (.slice Ao77 t246.length co77 : Value).ownBlock ∧ some k_ ≠ (.slice Ao88 t253.length co88 : Value).ownBlock ∧ some k_ ≠ (.slice Ao99 t268.length co99 : Value).ownBlock) (Kd.R_keptB ((Kd.R_apart' HO263.out (Kd.R_typed HO238.out) (by decide))) hkp (fun k_ hk_ hs_ => Or.elim hs_ (fun e_ => (hk_.2) e_) (fun e_ => (hk_.1.1.1.1.2) e_))) (fun k_ hk_ => ⟨hk_.1.1.1.1.1.1.1.1.2, hk_.1.1.1.1.1.1.1.2, hk_.1.1.1.1.1.1.2, hk_.1.1.1.1.1.2, hk_.1.1.1.1.2, hk_.1.1.1.2, hk_.1.1.2⟩)); have n20_ := Aside0.mk (Kd.R_mono (ok' := fun k_ => some k_ ≠ (v218 : Value).ownBlock ∧ some k_ ≠ (v224 : Value).ownBlock ∧ some k_ ≠ (.slice Ao53 t229.length co53 : Value).ownBlock ∧ some k_ ≠ (.slice Ao61 t236.length co61 : Value).ownBlock ∧ some k_ ≠ (.slice Ao71 t243.length co71 : Value).ownBlock ∧ some k_ ≠ (.slice Ao81 t250.length co81 : Value).ownBlock ∧ some k_ ≠ (.slice Ao93 t258.length co93 : Value).ownBlock) (Kd.R_keptB ((Kd.R_apart' HO267.out (Kd.R_typed HO241.out) (by decide))) hkp (fun k_ hk_ hs_ => Or.elim hs_ (fun e_ => (hk_.1.1.1.1.2) e_) (fun e_ => (hk_.2) e_))) (fun k_ hk_ => ⟨hk_.1.1.1.1.1.1.1.1.2, hk_.1.1.1.1.1.1.1.2, hk_.1.1.1.1.1.1.2, hk_.1.1.1.1.1.2, hk_.1.1.1.1.2, hk_.1.1.1.2, hk_.1.1.2⟩)); have n21_ := Aside0.mk (Kd.R_mono (ok' := fun k_ => some k_ ≠ (v221 : Value).ownBlock ∧ some k_ ≠ (v227 : Value).ownBlock ∧ some k_ ≠ (.slice Ao55 t232.length co55 : Value).ownBlock ∧ some k_ ≠ (.slice Ao66 t239.length co66 : Value).ownBlock ∧ some k_ ≠ (.slice Ao77 t246.length co77 : Value).ownBlock ∧ some k_ ≠ (.slice Ao88 t253.length co88 : Value).ownBlock ∧ some k_ ≠ (.slice Ao94 t261.length co94 : Value).ownBlock) (Kd.R_keptB ((Kd.R_apart' HO270.out (Kd.R_typed HO238.out) (by decide))) hkp (fun k_ hk_ hs_ => Or.elim hs_ (fun e_ => (hk_.2) e_) (fun e_ => (hk_.1.1.1.1.2) e_))) (fun k_ hk_ => ⟨hk_.1.1.1.1.1.1.1.1.2, hk_.1.1.1.1.1.1.1.2, hk_.1.1.1.1.1.1.2, hk_.1.1.1.1.1.2, hk_.1.1.1.1.2, hk_.1.1.1.2, hk_.1.1.2⟩)); have n22_ := Aside0.mk (hb); clear BK213; clear BK214; clear HO219; clear HO222; clear HO225; clear HO228; clear HO231; clear HO234; clear BK235; clear HO238; clear HO241; clear BK242; clear HO245; clear HO248; clear BK249; clear HO252; clear HO255; clear BK256; clear HO260; clear HO263; clear HO267; clear HO270; clear HB; have BK213 := n0_; have BK214 := n1_; have HO219 := n2_; have HO222 := n3_; have HO225 := n4_; have HO228 := n5_; have HO231 := n6_; have HO234 := n7_; have BK235 := n8_; have HO238 := n9_; have HO241 := n10_; have BK242 := n11_; have HO245 := n12_; have HO248 := n13_; have BK249 := n14_; have HO252 := n15_; have HO255 := n16_; have BK256 := n17_; have HO260 := n18_; have HO263 := n19_; have HO267 := n20_; have HO270 := n21_; have HB := n22_; clear n0_ n1_ n2_ n3_ n4_ n5_ n6_ n7_ n8_ n9_ n10_ n11_ n12_ n13_ n14_ n15_ n16_ n17_ n18_ n19_ n20_ n21_ n22_; (try clear hb); (try clear hkp); (try clear hy0); (try clear hy1); obtain ⟨hcz103_0, hcz103_1, hfz103_0, hfz103_1⟩ := Bc2_ BK249) | ((with_reducible refine gate_callee (f := 20) rfl ?_); refine goesL_ (some 55) rfl rfl Try.func20 (by kernel_rfl) rfl #[.agg #[.slice Ao71 t243.length co71, .slice Ao77 t246.length co77], .int .i64 t272] rfl Mp_ ?_; (with_reducible refine (laws_markEnv.calls k (fun k_ => some k_ = (.slice Ao71 t243.length co71 : Value).ownBlock) (.slice Ao71 t243.length co71) t243 (fun k_ => some k_ = (.slice Ao77 t246.length co77 : Value).ownBlock) (.slice Ao77 t246.length co77) t246 t272 t275 t276 t277 w _ ?side1 ?side2 ?side3 A34.out).mono ?_); (case side1 => repeat (first | (with_reducible first | exact HB.out | apply below_alloc | apply pw_below_drewN | apply below_drew1 | refine below_set ?_ GE213.out | refine below_set ?_ GE214.out | refine below_set ?_ GE235.out | refine below_set ?_ GE242.out | refine below_set ?_ GE249.out | refine below_set ?_ GE256.out) | exact HB.out)); (case side2 => exact Kd.R_tight rfl HO245.out); (case side3 => exact Kd.R_tight rfl HO248.out); rintro e w104 ⟨rfl, hy0, hy1, hb, hkp⟩; refine ⟨_, rfl, ?_⟩; have n0_ := Aside0.mk (blk_kept (Bq_ BK213) hkp (fun hs_ => Or.elim hs_ (fun e_ => (fun e_ => (Kd.R_ne HO245.out BK213.out (by decide)) e_) e_) (fun e_ => (fun e_ => (Kd.R_ne HO248.out BK213.out (by decide)) e_) e_))); have n1_ := Aside0.mk (blk_kept (Bq_ BK214) hkp (fun hs_ => Or.elim hs_ (fun e_ => (fun e_ => (Kd.R_ne HO245.out BK214.out (by decide)) e_) e_) (fun e_ => (fun e_ => (Kd.R_ne HO248.out BK214.out (by decide)) e_) e_))); have n2_ := Aside0.mk (Kd.R_mono (ok' := fun k_ => some k_ ≠ (v224 : Value).ownBlock ∧ some k_ ≠ (.slice Ao53 t229.length co53 : Value).ownBlock ∧ some k_ ≠ (.slice Ao61 t236.length co61 : Value).ownBlock ∧ some k_ ≠ (.slice Ao71 t243.length co71 : Value).ownBlock ∧ some k_ ≠ (.slice Ao81 t250.length co81 : Value).ownBlock ∧ some k_ ≠ (.slice Ao93 t258.length co93 : Value).ownBlock ∧ some k_ ≠ (.slice Ao98 t265.length co98 : Value).ownBlock) (Kd.R_keptB ((Kd.R_apart' HO219.out (Kd.R_typed HO248.out) (by decide))) hkp (fun k_ hk_ hs_ => Or.elim hs_ (fun e_ => (hk_.1.2.2.2.1) e_) (fun e_ => (hk_.2) e_))) (fun k_ hk_ => ⟨hk_.1.1.1, hk_.1.1.2.1, hk_.1.1.2.2.1, hk_.1.1.2.2.2.1, hk_.1.1.2.2.2.2.1, hk_.1.1.2.2.2.2.2.1, hk_.1.1.2.2.2.2.2.2⟩)); have n3_ := Aside0.mk (Kd.R_mono (ok' := fun k_ => some k_ ≠ (v227 : Value).ownBlock ∧ some k_ ≠ (.slice Ao55 t232.length co55 : Value).ownBlock ∧ some k_ ≠ (.slice Ao66 t239.length co66 : Value).ownBlock ∧ some k_ ≠ (.slice Ao77 t246.length co77 : Value).ownBlock ∧ some k_ ≠ (.slice Ao88 t253.length co88 : Value).ownBlock ∧ some k_ ≠ (.slice Ao94 t261.length co94 : Value).ownBlock ∧ some k_ ≠ (.slice Ao99 t268.length co99 : Value).ownBlock) (Kd.R_keptB ((Kd.R_apart' HO222.out (Kd.R_typed HO245.out) (by decide))) hkp (fun k_ hk_ hs_ => Or.elim hs_ (fun e_ => (hk_.2) e_) (fun e_ => (hk_.1.2.2.2.1) e_))) (fun k_ hk_ => ⟨hk_.1.1.1, hk_.1.1.2.1, hk_.1.1.2.2.1, hk_.1.1.2.2.2.1, hk_.1.1.2.2.2.2.1, hk_.1.1.2.2.2.2.2.1, hk_.1.1.2.2.2.2.2.2⟩)); have n4_ := Aside0.mk (Kd.R_mono (ok' := fun k_ => some k_ ≠ (v218 : Value).ownBlock ∧ some k_ ≠ (.slice Ao53 t229.length co53 : Value).ownBlock ∧ some k_ ≠ (.slice Ao61 t236.length co61 : Value).ownBlock ∧ some k_ ≠ (.slice Ao71 t243.length co71 : Value).ownBlock ∧ some k_ ≠ (.slice Ao81 t250.length co81 : Value).ownBlock ∧ some k_ ≠ (.slice Ao93 t258.length co93 : Value).ownBlock ∧ some k_ ≠ (.slice Ao98 t265.length co98 : Value).ownBlock) (Kd.R_keptB ((Kd.R_apart' HO225.out (Kd.R_typed HO248.out) (by decide))) hkp (fun k_ hk_ hs_ => Or.elim hs_ (fun e_ => (hk_.1.2.2.2.1) e_) (fun e_ => (hk_.2) e_))) (fun k_ hk_ => ⟨hk_.1.1.1, hk_.1.1.2.1, hk_.1.1.2.2.1, hk_.1.1.2.2.2.1, hk_.1.1.2.2.2.2.1, hk_.1.1.2.2.2.2.2.1, hk_.1.1.2.2.2.2.2.2⟩)); have n5_ := Aside0.mk (Kd.R_mono (ok' := fun k_ => some k_ ≠ (v221 : Value).ownBlock ∧ some k_ ≠ (.slice Ao55 t232.length co55 : Value).ownBlock ∧ some k_ ≠ (.slice Ao66 t239.length co66 : Value).ownBlock ∧ some k_ ≠ (.slice Ao77 t246.length co77 : Value).ownBlock ∧ some k_ ≠ (.slice Ao88 t253.length co88 : Value).ownBlock ∧ some k_ ≠ (.slice Ao94 t261.length co94 : Value).ownBlock ∧ some k_ ≠ (.slice Ao99 t268.length co99 : Value).ownBlock) (Kd.R_keptB ((Kd.R_apart' HO228.out (Kd.R_typed HO245.out) (by decide))) hkp (fun k_ hk_ hs_ => Or.elim hs_ (fun e_ => (hk_.2) e_) (fun e_ => (hk_.1.2.2.2.1) e_))) (fun k_ hk_ => ⟨hk_.1.1.1, hk_.1.1.2.1, hk_.1.1.2.2.1, hk_.1.1.2.2.2.1, hk_.1.1.2.2.2.2.1, hk_.1.1.2.2.2.2.2.1, hk_.1.1.2.2.2.2.2.2⟩)); have n6_ := Aside0.mk (Kd.R_mono (ok' := fun k_ => some k_ ≠ (v218 : Value).ownBlock ∧ some k_ ≠ (v224 : Value).ownBlock ∧ some k_ ≠ (.slice Ao61 t236.length co61 : Value).ownBlock ∧ some k_ ≠ (.slice Ao71 t243.length co71 : Value).ownBlock ∧ some k_ ≠ (.slice Ao81 t250.length co81 : Value).ownBlock ∧ some k_ ≠ (.slice Ao93 t258.length co93 : Value).ownBlock ∧ some k_ ≠ (.slice Ao98 t265.length co98 : Value).ownBlock) (Kd.R_keptB ((Kd.R_apart' HO231.out (Kd.R_typed HO248.out) (by decide))) hkp (fun k_ hk_ hs_ => Or.elim hs_ (fun e_ => (hk_.1.2.2.2.1) e_) (fun e_ => (hk_.2) e_))) (fun k_ hk_ => ⟨hk_.1.1.1, hk_.1.1.2.1, hk_.1.1.2.2.1, hk_.1.1.2.2.2.1, hk_.1.1.2.2.2.2.1, hk_.1.1.2.2.2.2.2.1, hk_.1.1.2.2.2.2.2.2⟩)); have n7_ := Aside0.mk (Kd.R_mono (ok' := fun k_ => some k_ ≠ (v221 : Value).ownBlock ∧ some k_ ≠ (v227 : Value).ownBlock ∧ some k_ ≠ (.slice Ao66 t239.length co66 : Value).ownBlock ∧ some k_ ≠ (.slice Ao77 t246.length co77 : Value).ownBlock ∧ some k_ ≠ (.slice Ao88 t253.length co88 : Value).ownBlock ∧ some k_ ≠ (.slice Ao94 t261.length co94 : Value).ownBlock ∧ some k_ ≠ (.slice Ao99 t268.length co99 : Value).ownBlock) (Kd.R_keptB ((Kd.R_apart' HO234.out (Kd.R_typed HO245.out) (by decide))) hkp (fun k_ hk_ hs_ => Or.elim hs_ (fun e_ => (hk_.2) e_) (fun e_ => (hk_.1.2.2.2.1) e_))) (fun k_ hk_ => ⟨hk_.1.1.1, hk_.1.1.2.1, hk_.1.1.2.2.1, hk_.1.1.2.2.2.1, hk_.1.1.2.2.2.2.1, hk_.1.1.2.2.2.2.2.1, hk_.1.1.2.2.2.2.2.2⟩)); have n8_ := Aside0.mk (blk_kept (Bq_ BK235) hkp (fun hs_ => Or.elim hs_ (fun e_ => (fun e_ => (Kd.R_ne HO245.out BK235.out (by decide)) e_) e_) (fun e_ => (fun e_ => (Kd.R_ne HO248.out BK235.out (by decide)) e_) e_))); have n9_ := Aside0.mk (Kd.R_mono (ok' := fun k_ => some k_ ≠ (v218 : Value).ownBlock ∧ some k_ ≠ (v224 : Value).ownBlock ∧ some k_ ≠ (.slice Ao53 t229.length co53 : Value).ownBlock ∧ some k_ ≠ (.slice Ao71 t243.length co71 : Value).ownBlock ∧ some k_ ≠ (.slice Ao81 t250.length co81 : Value).ownBlock ∧ some k_ ≠ (.slice Ao93 t258.length co93 : Value).ownBlock ∧ some k_ ≠ (.slice Ao98 t265.length co98 : Value).ownBlock) (Kd.R_keptB ((Kd.R_apart' HO238.out (Kd.R_typed HO248.out) (by decide))) hkp (fun k_ hk_ hs_ => Or.elim hs_ (fun e_ => (hk_.1.1.1.1.2) e_) (fun e_ => (hk_.2) e_))) (fun k_ hk_ => ⟨hk_.1.1.1.1.1.1.1.1.2, hk_.1.1.1.1.1.1.1.2, hk_.1.1.1.1.1.1.2, hk_.1.1.1.1.1.2, hk_.1.1.1.1.2, hk_.1.1.1.2, hk_.1.1.2⟩)); have n10_ := Aside0.mk (Kd.R_mono (ok' := fun k_ => some k_ ≠ (v221 : Value).ownBlock ∧ some k_ ≠ (v227 : Value).ownBlock ∧ some k_ ≠ (.slice Ao55 t232.length co55 : Value).ownBlock ∧ some k_ ≠ (.slice Ao77 t246.length co77 : Value).ownBlock ∧ some k_ ≠ (.slice Ao88 t253.length co88 : Value).ownBlock ∧ some k_ ≠ (.slice Ao94 t261.length co94 : Value).ownBlock ∧ some k_ ≠ (.slice Ao99 t268.length co99 : Value).ownBlock) (Kd.R_keptB ((Kd.R_apart' HO241.out (Kd.R_typed HO245.out) (by decide))) hkp (fun k_ hk_ hs_ => Or.elim hs_ (fun e_ => (hk_.2) e_) (fun e_ => (hk_.1.1.1.1.2) e_))) (fun k_ hk_ => ⟨hk_.1.1.1.1.1.1.1.1.2, hk_.1.1.1.1.1.1.1.2, hk_.1.1.1.1.1.1.2, hk_.1.1.1.1.1.2, hk_.1.1.1.1.2, hk_.1.1.1.2, hk_.1.1.2⟩)); have n11_ := Aside0.mk (blk_kept (Bq_ BK242) hkp (fun hs_ => Or.elim hs_ (fun e_ => (fun e_ => (Kd.R_ne HO245.out BK242.out (by decide)) e_) e_) (fun e_ => (fun e_ => (Kd.R_ne HO248.out BK242.out (by decide)) e_) e_))); have n12_ := Aside0.mk (Kd.R_reok rfl hy0 (fun k_ e_ => HO245.out.1 k_ e_)); have n13_ := Aside0.mk (Kd.R_reok rfl hy1 (fun k_ e_ => HO248.out.1 k_ e_)); have n14_ := Aside0.mk (blk_kept (Bq_ BK249) hkp (fun hs_ => Or.elim hs_ (fun e_ => (fun e_ => (Kd.R_ne HO245.out BK249.out (by decide)) e_) e_) (fun e_ => (fun e_ => (Kd.R_ne HO248.out BK249.out (by decide)) e_) e_))); have n15_ := Aside0.mk (Kd.R_mono (ok' := fun k_ => some k_ ≠ (v218 : Value).ownBlock ∧ some k_ ≠ (v224 : Value).ownBlock ∧ some k_ ≠ (.slice Ao53 t229.length co53 : Value).ownBlock ∧ some k_ ≠ (.slice Ao61 t236.length co61 : Value).ownBlock ∧ some k_ ≠ (.slice Ao71 t243.length co71 : Value).ownBlock ∧ some k_ ≠ (.slice Ao93 t258.length co93 : Value).ownBlock ∧ some k_ ≠ (.slice Ao98 t265.length co98 : Value).ownBlock) (Kd.R_keptB ((Kd.R_apart' HO252.out (Kd.R_typed HO248.out) (by decide))) hkp (fun k_ hk_ hs_ => Or.elim hs_ (fun e_ => (hk_.1.2.2.2.2.1) e_) (fun e_ => (hk_.2) e_))) (fun k_ hk_ => ⟨hk_.1.1.1, hk_.1.1.2.1, hk_.1.1.2.2.1, hk_.1.1.2.2.2.1, hk_.1.1.2.2.2.2.1, hk_.1.1.2.2.2.2.2.1, hk_.1.1.2.2.2.2.2.2⟩)); have n16_ := Aside0.mk (Kd.R_mono (ok' := fun k_ => some k_ ≠ (v221 : Value).ownBlock ∧ some k_ ≠ (v227 : Value).ownBlock ∧ some k_ ≠ (.slice Ao55 t232.length co55 : Value).ownBlock ∧ some k_ ≠ (.slice Ao66 t239.length co66 : Value).ownBlock ∧ some k_ ≠ (.slice Ao77 t246.length co77 : Value).ownBlock ∧ some k_ ≠ (.slice Ao94 t261.length co94 : Value).ownBlock ∧ some k_ ≠ (.slice Ao99 t268.length co99 : Value).ownBlock) (Kd.R_keptB ((Kd.R_apart' HO255.out (Kd.R_typed HO245.out) (by decide))) hkp (fun k_ hk_ hs_ => Or.elim hs_ (fun e_ => (hk_.2) e_) (fun e_ => (hk_.1.2.2.2.2.1) e_))) (fun k_ hk_ => ⟨hk_.1.1.1, hk_.1.1.2.1, hk_.1.1.2.2.1, hk_.1.1.2.2.2.1, hk_.1.1.2.2.2.2.1, hk_.1.1.2.2.2.2.2.1, hk_.1.1.2.2.2.2.2.2⟩)); have n17_ := Aside0.mk (blk_kept (Bq_ BK256) hkp (fun hs_ => Or.elim hs_ (fun e_ => (fun e_ => (Kd.R_ne HO245.out BK256.out (by decide)) e_) e_) (fun e_ => (fun e_ => (Kd.R_ne HO248.out BK256.out (by decide)) e_) e_))); have n18_ := Aside0.mk (Kd.R_mono (ok' := fun k_ => some k_ ≠ (v218 : Value).ownBlock ∧ some k_ ≠ (v224 : Value).ownBlock ∧ some k_ ≠ (.slice Ao53 t229.length co53 : Value).ownBlock ∧ some k_ ≠ (.slice Ao61 t236.length co61 : Value).ownBlock ∧ some k_ ≠ (.slice Ao71 t243.length co71 : Value).ownBlock ∧ some k_ ≠ (.slice Ao81 t250.length co81 : Value).ownBlock ∧ some k_ ≠ (.slice Ao98 t265.length co98 : Value).ownBlock) (Kd.R_keptB ((Kd.R_apart' HO260.out (Kd.R_typed HO248.out) (by decide))) hkp (fun k_ hk_ hs_ => Or.elim hs_ (fun e_ => (hk_.1.2.2.2.2.1) e_) (fun e_ => (hk_.2) e_))) (fun k_ hk_ => ⟨hk_.1.1.1, hk_.1.1.2.1, hk_.1.1.2.2.1, hk_.1.1.2.2.2.1, hk_.1.1.2.2.2.2.1, hk_.1.1.2.2.2.2.2.1, hk_.1.1.2.2.2.2.2.2⟩)); have n19_ := Aside0.mk (Kd.R_mono (ok' := fun k_ => some k_ ≠ (v221 : Value).ownBlock ∧ some k_ ≠ (v227 : Value).ownBlock ∧ some k_ ≠ (.slice Ao55 t232.length co55 : Value).ownBlock ∧ some k_ ≠ (.slice Ao66 t239.length co66 : Value).ownBlock ∧ some k_ ≠ (.slice Ao77 t246.length co77 : Value).ownBlock ∧ some k_ ≠ (.slice Ao88 t253.length co88 : Value).ownBlock ∧ some k_ ≠ (.slice Ao99 t268.length co99 : Value).ownBlock) (Kd.R_keptB ((Kd.R_apart' HO263.out (Kd.R_typed HO245.out) (by decide))) hkp (fun k_ hk_ hs_ => Or.elim hs_ (fun e_ => (hk_.2) e_) (fun e_ => (hk_.1.2.2.2.2.1) e_))) (fun k_ hk_ => ⟨hk_.1.1.1, hk_.1.1.2.1, hk_.1.1.2.2.1, hk_.1.1.2.2.2.1, hk_.1.1.2.2.2.2.1, hk_.1.1.2.2.2.2.2.1, hk_.1.1.2.2.2.2.2.2⟩)); have n20_ := Aside0.mk (Kd.R_mono (ok' := fun k_ => some k_ ≠ (v218 : Value).ownBlock ∧ some k_ ≠ (v224 : Value).ownBlock ∧ some k_ ≠ (.slice Ao53 t229.length co53 : Value).ownBlock ∧ some k_ ≠ (.slice Ao61 t236.length co61 : Value).ownBlock ∧ some k_ ≠ (.slice Ao71 t243.length co71 : Value).ownBlock ∧ some k_ ≠ (.slice Ao81 t250.length co81 : Value).ownBlock ∧ some k_ ≠ (.slice Ao93 t258.length co93 : Value).ownBlock) (Kd.R_keptB ((Kd.R_apart' HO267.out (Kd.R_typed HO248.out) (by decide))) hkp (fun k_ hk_ hs_ => Or.elim hs_ (fun e_ => (hk_.1.2.2.2.2.1) e_) (fun e_ => (hk_.2) e_))) (fun k_ hk_ => ⟨hk_.1.1.1, hk_.1.1.2.1, hk_.1.1.2.2.1, hk_.1.1.2.2.2.1, hk_.1.1.2.2.2.2.1, hk_.1.1.2.2.2.2.2.1, hk_.1.1.2.2.2.2.2.2⟩)); have n21_ := Aside0.mk (Kd.R_mono (ok' := fun k_ => some k_ ≠ (v221 : Value).ownBlock ∧ some k_ ≠ (v227 : Value).ownBlock ∧ some k_ ≠ (.slice Ao55 t232.length co55 : Value).ownBlock ∧ some k_ ≠ (.slice Ao66 t239.length co66 : Value).ownBlock ∧ some k_ ≠ (.slice Ao77 t246.length co77 : Value).ownBlock ∧ some k_ ≠ (.slice Ao88 t253.length co88 : Value).ownBlock ∧ some k_ ≠ (.slice Ao94 t261.length co94 : Value).ownBlock) (Kd.R_keptB ((Kd.R_apart' HO270.out (Kd.R_typed HO245.out) (by decide))) hkp (fun k_ hk_ hs_ => Or.elim hs_ (fun e_ => (hk_.2) e_) (fun e_ => (hk_.1.2.2.2.2.1) e_))) (fun k_ hk_ => ⟨hk_.1.1.1, hk_.1.1.2.1, hk_.1.1.2.2.1, hk_.1.1.2.2.2.1, hk_.1.1.2.2.2.2.1, hk_.1.1.2.2.2.2.2.1, hk_.1.1.2.2.2.2.2.2⟩)); have n22_ := Aside0.mk (hb); clear BK213; clear BK214; clear HO219; clear HO222; clear HO225; clear HO228; clear HO231; clear HO234; clear BK235; clear HO238; clear HO241; clear BK242; clear HO245; clear HO248; clear BK249; clear HO252; clear HO255; clear BK256; clear HO260; clear HO263; clear HO267; clear HO270; clear HB; have BK213 := n0_; have BK214 := n1_; have HO219 := n2_; have HO222 := n3_; have HO225 := n4_; have HO228 := n5_; have HO231 := n6_; have HO234 := n7_; have BK235 := n8_; have HO238 := n9_; have HO241 := n10_; have BK242 := n11_; have HO245 := n12_; have HO248 := n13_; have BK249 := n14_; have HO252 := n15_; have HO255 := n16_; have BK256 := n17_; have HO260 := n18_; have HO263 := n19_; have HO267 := n20_; have HO270 := n21_; have HB := n22_; clear n0_ n1_ n2_ n3_ n4_ n5_ n6_ n7_ n8_ n9_ n10_ n11_ n12_ n13_ n14_ n15_ n16_ n17_ n18_ n19_ n20_ n21_ n22_; (try clear hb); (try clear hkp); (try clear hy0); (try clear hy1)))
      (try simp only [Act.put, List.setIfInBounds_toArray, List.set_cons_zero, List.set_cons_succ])
      go_cut [63] (fun v63 wc => ∃ (kq : Nat) (x63_34 : Bool), v63 = .bool x63_34 ∧ Aside0 (laws_FnExactTogether.j0 kq x63_34 l0_0 l0_1 l1_0 l1_1 t229 t232 t250 t253 = some r) ∧ Aside0 (kq ≤ k) ∧ Aside0 (Kd.R Kd.string 9 wc w.heap.size (fun k_ => some k_ ≠ ((.slice Ao61 t236.length co61) : Value).ownBlock ∧ some k_ ≠ ((.slice Ao71 t243.length co71) : Value).ownBlock ∧ some k_ ≠ ((.slice Ao81 t250.length co81) : Value).ownBlock) (.slice Ao53 t229.length co53) t229) ∧ Aside0 (Kd.R (Kd.int .i64) 3 wc w.heap.size (fun k_ => some k_ ≠ ((.slice Ao66 t239.length co66) : Value).ownBlock ∧ some k_ ≠ ((.slice Ao77 t246.length co77) : Value).ownBlock ∧ some k_ ≠ ((.slice Ao88 t253.length co88) : Value).ownBlock) (.slice Ao55 t232.length co55) t232) ∧ Aside0 (Kd.R Kd.string 9 wc w.heap.size (fun k_ => some k_ ≠ ((.slice Ao53 t229.length co53) : Value).ownBlock ∧ some k_ ≠ ((.slice Ao71 t243.length co71) : Value).ownBlock ∧ some k_ ≠ ((.slice Ao81 t250.length co81) : Value).ownBlock) (.slice Ao61 t236.length co61) t273) ∧ Aside0 (Kd.R (Kd.int .i64) 3 wc w.heap.size (fun k_ => some k_ ≠ ((.slice Ao55 t232.length co55) : Value).ownBlock ∧ some k_ ≠ ((.slice Ao77 t246.length co77) : Value).ownBlock ∧ some k_ ≠ ((.slice Ao88 t253.length co88) : Value).ownBlock) (.slice Ao66 t239.length co66) t274) ∧ Aside0 (Kd.R Kd.string 9 wc w.heap.size (fun k_ => some k_ ≠ ((.slice Ao53 t229.length co53) : Value).ownBlock ∧ some k_ ≠ ((.slice Ao61 t236.length co61) : Value).ownBlock ∧ some k_ ≠ ((.slice Ao81 t250.length co81) : Value).ownBlock) (.slice Ao71 t243.length co71) t276) ∧ Aside0 (Kd.R (Kd.int .i64) 3 wc w.heap.size (fun k_ => some k_ ≠ ((.slice Ao55 t232.length co55) : Value).ownBlock ∧ some k_ ≠ ((.slice Ao66 t239.length co66) : Value).ownBlock ∧ some k_ ≠ ((.slice Ao88 t253.length co88) : Value).ownBlock) (.slice Ao77 t246.length co77) t277) ∧ Aside0 (Kd.R Kd.string 9 wc w.heap.size (fun k_ => some k_ ≠ ((.slice Ao53 t229.length co53) : Value).ownBlock ∧ some k_ ≠ ((.slice Ao61 t236.length co61) : Value).ownBlock ∧ some k_ ≠ ((.slice Ao71 t243.length co71) : Value).ownBlock) (.slice Ao81 t250.length co81) t250) ∧ Aside0 (Kd.R (Kd.int .i64) 3 wc w.heap.size (fun k_ => some k_ ≠ ((.slice Ao55 t232.length co55) : Value).ownBlock ∧ some k_ ≠ ((.slice Ao66 t239.length co66) : Value).ownBlock ∧ some k_ ≠ ((.slice Ao77 t246.length co77) : Value).ownBlock) (.slice Ao88 t253.length co88) t253) ∧ Aside0 (wc.heap[gb213]? = some (.cells #[(.slice A0_0 l0_0.length c0_0), (.slice A0_1 l0_1.length c0_1)] 25 (0, 0))) ∧ Aside0 (wc.heap[gb214]? = some (.cells #[(.slice A1_0 l1_0.length c1_0), (.slice A1_1 l1_1.length c1_1)] 25 (0, 0))) ∧ Aside0 (wc.heap[gb235]? = some (.cells #[(.slice Ao53 t229.length co53), (.slice Ao55 t232.length co55)] 28 (0, 0))) ∧ Aside0 (wc.heap[gb242]? = some (.cells #[(.slice Ao61 t236.length co61), (.slice Ao66 t239.length co66)] 28 (0, 0))) ∧ Aside0 (wc.heap[gb249]? = some (.cells #[(.slice Ao71 t243.length co71), (.slice Ao77 t246.length co77)] 28 (0, 0))) ∧ Aside0 (wc.heap[gb256]? = some (.cells #[(.slice Ao81 t250.length co81), (.slice Ao88 t253.length co88)] 28 (0, 0))) ∧ Aside0 (Below w.heap.size w wc))
      case first =>
       have H := HC35.out
       clear HC35
       by_cases c105 : t275 < 0
       ·rw [if_pos c105] at H
        have c105b0 : decide (t275 < 0) = true := decide_eq_true c105
        clear c105
        (first | rw [c105b0] | (simp only [i64_w, i32_w]; rw [c105b0]) | skip)
        have H' := Aside0.mk H
        clear H
        go_wp2
        go_meet
        case rel => exact ⟨_, (true), (by first | rfl | (simp; done) | (simp [*]; done)), H', ⟨by first | omega | exact Nat.le_refl _⟩, ⟨Rm_ HO231 (fun _ hk => ⟨hk.2.2.1, ⟨hk.2.2.2.1, hk.2.2.2.2.1⟩⟩)⟩, ⟨Rm_ HO234 (fun _ hk => ⟨hk.2.2.1, ⟨hk.2.2.2.1, hk.2.2.2.2.1⟩⟩)⟩, ⟨Rm_ HO238 (fun _ hk => ⟨hk.2.2.1, ⟨hk.2.2.2.1, hk.2.2.2.2.1⟩⟩)⟩, ⟨Rm_ HO241 (fun _ hk => ⟨hk.2.2.1, ⟨hk.2.2.2.1, hk.2.2.2.2.1⟩⟩)⟩, ⟨Rm_ HO245 (fun _ hk => ⟨hk.2.2.1, ⟨hk.2.2.2.1, hk.2.2.2.2.1⟩⟩)⟩, ⟨Rm_ HO248 (fun _ hk => ⟨hk.2.2.1, ⟨hk.2.2.2.1, hk.2.2.2.2.1⟩⟩)⟩, ⟨Rm_ HO252 (fun _ hk => ⟨hk.2.2.1, ⟨hk.2.2.2.1, hk.2.2.2.2.1⟩⟩)⟩, ⟨Rm_ HO255 (fun _ hk => ⟨hk.2.2.1, ⟨hk.2.2.2.1, hk.2.2.2.2.1⟩⟩)⟩, ⟨Bq_ BK213⟩, ⟨Bq_ BK214⟩, ⟨Bq_ BK235⟩, ⟨Bq_ BK242⟩, ⟨Bq_ BK249⟩, ⟨Bq_ BK256⟩, ⟨Hf_ HB⟩⟩
       ·rw [if_neg c105] at H
        have c105b0 : decide (t275 < 0) = false := decide_eq_false c105
        clear c105
        (first | rw [c105b0] | (simp only [i64_w, i32_w]; rw [c105b0]) | skip)
        replace H := Option.bind_eq_some_iff.mp H
        obtain ⟨t278, A1060, H⟩ := H
        replace H : (laws_FnExactTogether.j0 k (!t278) l0_0 l0_1 l1_0 l1_1 t229 t232 t250 t253) = some r := H
        have A106 := Aside0.mk A1060
        clear A1060
        have H' := Aside0.mk H
        clear H
        have hnb107 := NB256_213.out
        have hnc107 := NB213_256.out
        have hnb108 := NB256_214.out
        have hnc108 := NB214_256.out
        have hnb109 := NB256_235.out
        have hnc109 := NB235_256.out
        have hnb110 := NB256_242.out
        have hnc110 := NB242_256.out
        have hnb111 := NB256_249.out
        have hnc111 := NB249_256.out
        obtain ⟨hcz112_0, hcz112_1, hfz112_0, hfz112_1⟩ := Bc2_ BK256
        have hnb113 := NB235_213.out
        have hnc113 := NB213_235.out
        have hnb114 := NB235_214.out
        have hnc114 := NB214_235.out
        have hnb115 := NB235_242.out
        have hnc115 := NB242_235.out
        have hnb116 := NB235_249.out
        have hnc116 := NB249_235.out
        obtain ⟨hcz117_0, hcz117_1, hfz117_0, hfz117_1⟩ := Bc2_ BK235
        go_wp2_with (first | (go_at_call 17; (with_reducible refine (laws_eqEnv.calls k _ _ t250 _ _ t253 _ _ t229 _ _ t232 t278 _ ?side1 ?side2 ?side3 ?side4 ?side5 ?side6 ?side7 ?side8 A106.out).mono ?_); (case side1 => exact Cq_ (Kd.R_reads' HO252.out).2.2); (case side2 => exact (Kd.R_reads' HO252.out).2.1); (case side3 => exact Cq_ (Kd.R_reads' HO255.out).2.2); (case side4 => exact (Kd.R_reads' HO255.out).2.1); (case side5 => exact Cq_ (Kd.R_reads' HO231.out).2.2); (case side6 => exact (Kd.R_reads' HO231.out).2.1); (case side7 => exact Cq_ (Kd.R_reads' HO234.out).2.2); (case side8 => exact (Kd.R_reads' HO234.out).2.1); rintro e w118 ⟨rfl, hb⟩; replace HO219 := Rb_ HO219 hb; replace HO222 := Rb_ HO222 hb; replace HO225 := Rb_ HO225 hb; replace HO228 := Rb_ HO228 hb; replace HO231 := Rb_ HO231 hb; replace HO234 := Rb_ HO234 hb; replace HO238 := Rb_ HO238 hb; replace HO241 := Rb_ HO241 hb; replace HO245 := Rb_ HO245 hb; replace HO248 := Rb_ HO248 hb; replace HO252 := Rb_ HO252 hb; replace HO255 := Rb_ HO255 hb; replace HO260 := Rb_ HO260 hb; replace HO263 := Rb_ HO263 hb; replace HO267 := Rb_ HO267 hb; replace HO270 := Rb_ HO270 hb; replace BK213 := Bb_ BK213 hb; replace BK214 := Bb_ BK214 hb; replace BK235 := Bb_ BK235 hb; replace BK242 := Bb_ BK242 hb; replace BK249 := Bb_ BK249 hb; replace BK256 := Bb_ BK256 hb; replace HB := Hs_ HB hb; (try clear hb); (try clear hb2); (try clear hk); (try clear hi)))
        go_meet
        case rel => exact ⟨_, (!t278), (by first | rfl | (simp; done) | (simp [*]; done)), H', ⟨by first | omega | exact Nat.le_refl _⟩, ⟨Rm_ HO231 (fun _ hk => ⟨hk.2.2.1, ⟨hk.2.2.2.1, hk.2.2.2.2.1⟩⟩)⟩, ⟨Rm_ HO234 (fun _ hk => ⟨hk.2.2.1, ⟨hk.2.2.2.1, hk.2.2.2.2.1⟩⟩)⟩, ⟨Rm_ HO238 (fun _ hk => ⟨hk.2.2.1, ⟨hk.2.2.2.1, hk.2.2.2.2.1⟩⟩)⟩, ⟨Rm_ HO241 (fun _ hk => ⟨hk.2.2.1, ⟨hk.2.2.2.1, hk.2.2.2.2.1⟩⟩)⟩, ⟨Rm_ HO245 (fun _ hk => ⟨hk.2.2.1, ⟨hk.2.2.2.1, hk.2.2.2.2.1⟩⟩)⟩, ⟨Rm_ HO248 (fun _ hk => ⟨hk.2.2.1, ⟨hk.2.2.2.1, hk.2.2.2.2.1⟩⟩)⟩, ⟨Rm_ HO252 (fun _ hk => ⟨hk.2.2.1, ⟨hk.2.2.2.1, hk.2.2.2.2.1⟩⟩)⟩, ⟨Rm_ HO255 (fun _ hk => ⟨hk.2.2.1, ⟨hk.2.2.2.1, hk.2.2.2.2.1⟩⟩)⟩, ⟨Bq_ BK213⟩, ⟨Bq_ BK214⟩, ⟨Bq_ BK235⟩, ⟨Bq_ BK242⟩, ⟨Bq_ BK249⟩, ⟨Bq_ BK256⟩, ⟨Hf_ HB⟩⟩
      case rest =>
       clear HC35
       try clear c1
       try clear c2
       try clear p2
       try clear c10
       try clear c11
       try clear c15
       try clear c17
       try clear c20
       try clear c105
       try clear c105b0
       try clear c107
       try clear c108
       try clear c109
       try clear c110
       try clear c111
       try clear c113
       try clear c114
       try clear c115
       try clear c116
       try clear hcz101_0
       try clear hcz101_1
       try clear hcz103_0
       try clear hcz103_1
       try clear hcz112_0
       try clear hcz112_1
       try clear hcz117_0
       try clear hcz117_1
       try clear hfz101_0
       try clear hfz101_1
       try clear hfz103_0
       try clear hfz103_1
       try clear hfz112_0
       try clear hfz112_1
       try clear hfz117_0
       try clear hfz117_1
       obtain ⟨kq, x63_34, rfl, HA, HJ34, HO_236000, HO_236001, HO_243000, HO_243001, HO_250000, HO_250001, HO_257000, HO_257001, BK213, BK214, BK235, BK242, BK249, BK256, HB⟩ := hcut
       have hl243000_34 := (Kd.R_reads' HO_243000.out).1
       rw [hl243000_34] at HO_243000
       (try simp only [hl243000_34])
       (try simp only [hl243000_34] at BK213)
       (try simp only [hl243000_34] at BK214)
       (try simp only [hl243000_34] at BK235)
       (try simp only [hl243000_34] at BK242)
       (try simp only [hl243000_34] at BK249)
       (try simp only [hl243000_34] at BK256)
       (try simp only [hl243000_34] at HO_236000)
       (try simp only [hl243000_34] at HO_236001)
       (try simp only [hl243000_34] at HO_243001)
       (try simp only [hl243000_34] at HO_250000)
       (try simp only [hl243000_34] at HO_250001)
       (try simp only [hl243000_34] at HO_257000)
       (try simp only [hl243000_34] at HO_257001)
       have hl243001_34 := (Kd.R_reads' HO_243001.out).1
       rw [hl243001_34] at HO_243001
       (try simp only [hl243001_34])
       (try simp only [hl243001_34] at BK213)
       (try simp only [hl243001_34] at BK214)
       (try simp only [hl243001_34] at BK235)
       (try simp only [hl243001_34] at BK242)
       (try simp only [hl243001_34] at BK249)
       (try simp only [hl243001_34] at BK256)
       (try simp only [hl243001_34] at HO_236000)
       (try simp only [hl243001_34] at HO_236001)
       (try simp only [hl243001_34] at HO_243000)
       (try simp only [hl243001_34] at HO_250000)
       (try simp only [hl243001_34] at HO_250001)
       (try simp only [hl243001_34] at HO_257000)
       (try simp only [hl243001_34] at HO_257001)
       have hl250000_34 := (Kd.R_reads' HO_250000.out).1
       rw [hl250000_34] at HO_250000
       (try simp only [hl250000_34])
       (try simp only [hl250000_34] at BK213)
       (try simp only [hl250000_34] at BK214)
       (try simp only [hl250000_34] at BK235)
       (try simp only [hl250000_34] at BK242)
       (try simp only [hl250000_34] at BK249)
       (try simp only [hl250000_34] at BK256)
       (try simp only [hl250000_34] at HO_236000)
       (try simp only [hl250000_34] at HO_236001)
       (try simp only [hl250000_34] at HO_243000)
       (try simp only [hl250000_34] at HO_243001)
       (try simp only [hl250000_34] at HO_250001)
       (try simp only [hl250000_34] at HO_257000)
       (try simp only [hl250000_34] at HO_257001)
       have hl250001_34 := (Kd.R_reads' HO_250001.out).1
       rw [hl250001_34] at HO_250001
       (try simp only [hl250001_34])
       (try simp only [hl250001_34] at BK213)
       (try simp only [hl250001_34] at BK214)
       (try simp only [hl250001_34] at BK235)
       (try simp only [hl250001_34] at BK242)
       (try simp only [hl250001_34] at BK249)
       (try simp only [hl250001_34] at BK256)
       (try simp only [hl250001_34] at HO_236000)
       (try simp only [hl250001_34] at HO_236001)
       (try simp only [hl250001_34] at HO_243000)
       (try simp only [hl250001_34] at HO_243001)
       (try simp only [hl250001_34] at HO_250000)
       (try simp only [hl250001_34] at HO_257000)
       (try simp only [hl250001_34] at HO_257001)
       cases kq with
       | zero => exact absurd HA.out (by simp [laws_FnExactTogether.j0])
       | succ kj34 =>
        have H := HA.out
        clear HA
        simp only [laws_FnExactTogether.j0] at H
        by_cases c119 : x63_34 = true
        ·subst c119
         have H1 : (some false) = some r := by rw [if_pos rfl] at H; exact H
         clear H
         have H := H1
         clear H1
         exact absurd (Option.some.inj H) (by rw [hlaw_.out]; decide)
        ·replace c119 := Bool.eq_false_iff.mpr c119
         subst c119
         have H1 : ((laws_markEnv.f kj34 t250 t253 1).bind fun bt279 => ((laws_heldEnv.f kj34 bt279.2.1 bt279.2.2 1).bind fun t282 => (if t282 < 0 then (some false) else (if t282 = bt279.1 then ((laws_toEnv.f kj34 l0_0 l0_1).bind fun bt283 => ((laws_toEnv.f kj34 l1_0 l1_1).bind fun bt289 => ((impl_Together.f kj34 bt283.1 bt283.2 bt289.1 bt289.2).bind fun bt295 => ((laws_eqEnv.f kj34 bt295.1 bt295.2 t229 t232).bind fun t302 => (if t302 = true then ((laws_heldEnv.f kj34 bt279.2.1 bt279.2.2 1).bind fun t303 => (if t303 < 0 then (some false) else (if t303 = bt279.1 then (some true) else (some false)))) else (some false)))))) else (some false))))) = some r := by rw [if_neg (show ¬ (false = true) by decide)] at H; exact H
         clear H
         have H := H1
         clear H1
         replace H := Option.bind_eq_some_iff.mp H
         obtain ⟨⟨t279, t280, t281⟩, A1200, H⟩ := H
         replace H : ((laws_heldEnv.f kj34 t280 t281 1).bind fun t282 => (if t282 < 0 then (some false) else (if t282 = t279 then ((laws_toEnv.f kj34 l0_0 l0_1).bind fun bt283 => ((laws_toEnv.f kj34 l1_0 l1_1).bind fun bt289 => ((impl_Together.f kj34 bt283.1 bt283.2 bt289.1 bt289.2).bind fun bt295 => ((laws_eqEnv.f kj34 bt295.1 bt295.2 t229 t232).bind fun t302 => (if t302 = true then ((laws_heldEnv.f kj34 t280 t281 1).bind fun t303 => (if t303 < 0 then (some false) else (if t303 = t279 then (some true) else (some false)))) else (some false)))))) else (some false)))) = some r := H
         have A120 := Aside0.mk A1200
         clear A1200
         replace H := Option.bind_eq_some_iff.mp H
         obtain ⟨t282, A1210, H⟩ := H
         replace H : (if t282 < 0 then (some false) else (if t282 = t279 then ((laws_toEnv.f kj34 l0_0 l0_1).bind fun bt283 => ((laws_toEnv.f kj34 l1_0 l1_1).bind fun bt289 => ((impl_Together.f kj34 bt283.1 bt283.2 bt289.1 bt289.2).bind fun bt295 => ((laws_eqEnv.f kj34 bt295.1 bt295.2 t229 t232).bind fun t302 => (if t302 = true then ((laws_heldEnv.f kj34 t280 t281 1).bind fun t303 => (if t303 < 0 then (some false) else (if t303 = t279 then (some true) else (some false)))) else (some false)))))) else (some false))) = some r := H
         have A121 := Aside0.mk A1210
         clear A1210
         by_cases c122 : t282 < 0
         ·rw [if_pos c122] at H
          have c122b0 : decide (t282 < 0) = true := decide_eq_true c122
          clear c122
          exact absurd (Option.some.inj H) (by rw [hlaw_.out]; decide)
         ·rw [if_neg c122] at H
          have c122b0 : decide (t282 < 0) = false := decide_eq_false c122
          clear c122
          by_cases c123 : t282 = t279
          ·rw [if_pos c123] at H
           have c123b0 : (t282 == t279) = true := beq_iff_eq.mpr c123
           have c123b1 : (t282 != t279) = false := bne_eq_false_iff_eq.mpr c123
           clear c123
           replace H := Option.bind_eq_some_iff.mp H
           obtain ⟨⟨t283, t286⟩, A1240, H⟩ := H
           replace H : ((laws_toEnv.f kj34 l1_0 l1_1).bind fun bt289 => ((impl_Together.f kj34 t283 t286 bt289.1 bt289.2).bind fun bt295 => ((laws_eqEnv.f kj34 bt295.1 bt295.2 t229 t232).bind fun t302 => (if t302 = true then ((laws_heldEnv.f kj34 t280 t281 1).bind fun t303 => (if t303 < 0 then (some false) else (if t303 = t279 then (some true) else (some false)))) else (some false))))) = some r := H
           have A124 := Aside0.mk A1240
           clear A1240
           replace H := Option.bind_eq_some_iff.mp H
           obtain ⟨⟨t289, t292⟩, A1250, H⟩ := H
           replace H : ((impl_Together.f kj34 t283 t286 t289 t292).bind fun bt295 => ((laws_eqEnv.f kj34 bt295.1 bt295.2 t229 t232).bind fun t302 => (if t302 = true then ((laws_heldEnv.f kj34 t280 t281 1).bind fun t303 => (if t303 < 0 then (some false) else (if t303 = t279 then (some true) else (some false)))) else (some false)))) = some r := H
           have A125 := Aside0.mk A1250
           clear A1250
           replace H := Option.bind_eq_some_iff.mp H
           obtain ⟨⟨t295, t298⟩, A1260, H⟩ := H
           replace H : ((laws_eqEnv.f kj34 t295 t298 t229 t232).bind fun t302 => (if t302 = true then ((laws_heldEnv.f kj34 t280 t281 1).bind fun t303 => (if t303 < 0 then (some false) else (if t303 = t279 then (some true) else (some false)))) else (some false))) = some r := H
           have A126 := Aside0.mk A1260
           clear A1260
           replace H := Option.bind_eq_some_iff.mp H
           obtain ⟨t302, A1270, H⟩ := H
           replace H : (if t302 = true then ((laws_heldEnv.f kj34 t280 t281 1).bind fun t303 => (if t303 < 0 then (some false) else (if t303 = t279 then (some true) else (some false)))) else (some false)) = some r := H
           have A127 := Aside0.mk A1270
           clear A1270
           by_cases c128 : t302 = true
           ·subst c128
            have H1 : ((laws_heldEnv.f kj34 t280 t281 1).bind fun t303 => (if t303 < 0 then (some false) else (if t303 = t279 then (some true) else (some false)))) = some r := by rw [if_pos rfl] at H; exact H
            clear H
            have H := H1
            clear H1
            replace H := Option.bind_eq_some_iff.mp H
            obtain ⟨t303, A1290, H⟩ := H
            replace H : (if t303 < 0 then (some false) else (if t303 = t279 then (some true) else (some false))) = some r := H
            have A129 := Aside0.mk A1290
            clear A1290
            by_cases c130 : t303 < 0
            ·rw [if_pos c130] at H
             have c130b0 : decide (t303 < 0) = true := decide_eq_true c130
             clear c130
             exact absurd (Option.some.inj H) (by rw [hlaw_.out]; decide)
            ·rw [if_neg c130] at H
             have c130b0 : decide (t303 < 0) = false := decide_eq_false c130
             clear c130
             by_cases c131 : t303 = t279
             ·rw [if_pos c131] at H
              have c131b0 : (t303 == t279) = true := beq_iff_eq.mpr c131
              have c131b1 : (t303 != t279) = false := bne_eq_false_iff_eq.mpr c131
              clear c131
              obtain rfl := Option.some.inj H
              have hnb132 := NB256_213.out
              have hnc132 := NB213_256.out
              have hnb133 := NB256_214.out
              have hnc133 := NB214_256.out
              have hnb134 := NB256_235.out
              have hnc134 := NB235_256.out
              have hnb135 := NB256_242.out
              have hnc135 := NB242_256.out
              have hnb136 := NB256_249.out
              have hnc136 := NB249_256.out
              obtain ⟨hcz137_0, hcz137_1, hfz137_0, hfz137_1⟩ := Bc2_ BK256
              try go_wp2_with (first | ((with_reducible refine gate_callee (f := 20) rfl ?_); refine goesL_ (some 66) rfl rfl Try.func20 (by kernel_rfl) rfl #[.agg #[.slice Ao81 t250.length co81, .slice Ao88 t253.length co88], .int .i64 1] rfl Mp_ ?_; (with_reducible refine (laws_markEnv.calls kj34 (fun k_ => some k_ = (.slice Ao81 t250.length co81 : Value).ownBlock) (.slice Ao81 t250.length co81) t250 (fun k_ => some k_ = (.slice Ao88 t253.length co88 : Value).ownBlock) (.slice Ao88 t253.length co88) t253 1 t279 t280 t281 w _ ?side1 ?side2 ?side3 A120.out).mono ?_); (case side1 => repeat (first | (with_reducible first | exact HB.out | apply below_alloc | apply pw_below_drewN | apply below_drew1 | refine below_set ?_ GE213.out | refine below_set ?_ GE214.out | refine below_set ?_ GE235.out | refine below_set ?_ GE242.out | refine below_set ?_ GE249.out | refine below_set ?_ GE256.out) | exact HB.out)); (case side2 => exact Kd.R_tight rfl HO_257000.out); (case side3 => exact Kd.R_tight rfl HO_257001.out); rintro e w138 ⟨rfl, hy0, hy1, hb, hkp⟩; refine ⟨_, rfl, ?_⟩; have n0_ := Aside0.mk (Kd.R_mono (ok' := fun k_ => some k_ ≠ (.slice Ao61 t273.length co61 : Value).ownBlock ∧ some k_ ≠ (.slice Ao71 t276.length co71 : Value).ownBlock ∧ some k_ ≠ (.slice Ao81 t250.length co81 : Value).ownBlock) (Kd.R_keptB ((Kd.R_apart' HO_236000.out (Kd.R_typed HO_257001.out) (by decide))) hkp (fun k_ hk_ hs_ => Or.elim hs_ (fun e_ => (hk_.1.2.2) e_) (fun e_ => (hk_.2) e_))) (fun k_ hk_ => ⟨hk_.1.1.1, hk_.1.1.2.1, hk_.1.1.2.2⟩)); have n1_ := Aside0.mk (Kd.R_mono (ok' := fun k_ => some k_ ≠ (.slice Ao66 t274.length co66 : Value).ownBlock ∧ some k_ ≠ (.slice Ao77 t277.length co77 : Value).ownBlock ∧ some k_ ≠ (.slice Ao88 t253.length co88 : Value).ownBlock) (Kd.R_keptB ((Kd.R_apart' HO_236001.out (Kd.R_typed HO_257000.out) (by decide))) hkp (fun k_ hk_ hs_ => Or.elim hs_ (fun e_ => (hk_.2) e_) (fun e_ => (hk_.1.2.2) e_))) (fun k_ hk_ => ⟨hk_.1.1.1, hk_.1.1.2.1, hk_.1.1.2.2⟩)); have n2_ := Aside0.mk (Kd.R_mono (ok' := fun k_ => some k_ ≠ (.slice Ao53 t229.length co53 : Value).ownBlock ∧ some k_ ≠ (.slice Ao71 t276.length co71 : Value).ownBlock ∧ some k_ ≠ (.slice Ao81 t250.length co81 : Value).ownBlock) (Kd.R_keptB ((Kd.R_apart' HO_243000.out (Kd.R_typed HO_257001.out) (by decide))) hkp (fun k_ hk_ hs_ => Or.elim hs_ (fun e_ => (hk_.1.2.2) e_) (fun e_ => (hk_.2) e_))) (fun k_ hk_ => ⟨hk_.1.1.1, hk_.1.1.2.1, hk_.1.1.2.2⟩)); have n3_ := Aside0.mk (Kd.R_mono (ok' := fun k_ => some k_ ≠ (.slice Ao55 t232.length co55 : Value).ownBlock ∧ some k_ ≠ (.slice Ao77 t277.length co77 : Value).ownBlock ∧ some k_ ≠ (.slice Ao88 t253.length co88 : Value).ownBlock) (Kd.R_keptB ((Kd.R_apart' HO_243001.out (Kd.R_typed HO_257000.out) (by decide))) hkp (fun k_ hk_ hs_ => Or.elim hs_ (fun e_ => (hk_.2) e_) (fun e_ => (hk_.1.2.2) e_))) (fun k_ hk_ => ⟨hk_.1.1.1, hk_.1.1.2.1, hk_.1.1.2.2⟩)); have n4_ := Aside0.mk (Kd.R_mono (ok' := fun k_ => some k_ ≠ (.slice Ao53 t229.length co53 : Value).ownBlock ∧ some k_ ≠ (.slice Ao61 t273.length co61 : Value).ownBlock ∧ some k_ ≠ (.slice Ao81 t250.length co81 : Value).ownBlock) (Kd.R_keptB ((Kd.R_apart' HO_250000.out (Kd.R_typed HO_257001.out) (by decide))) hkp (fun k_ hk_ hs_ => Or.elim hs_ (fun e_ => (hk_.1.2.2) e_) (fun e_ => (hk_.2) e_))) (fun k_ hk_ => ⟨hk_.1.1.1, hk_.1.1.2.1, hk_.1.1.2.2⟩)); have n5_ := Aside0.mk (Kd.R_mono (ok' := fun k_ => some k_ ≠ (.slice Ao55 t232.length co55 : Value).ownBlock ∧ some k_ ≠ (.slice Ao66 t274.length co66 : Value).ownBlock ∧ some k_ ≠ (.slice Ao88 t253.length co88 : Value).ownBlock) (Kd.R_keptB ((Kd.R_apart' HO_250001.out (Kd.R_typed HO_257000.out) (by decide))) hkp (fun k_ hk_ hs_ => Or.elim hs_ (fun e_ => (hk_.2) e_) (fun e_ => (hk_.1.2.2) e_))) (fun k_ hk_ => ⟨hk_.1.1.1, hk_.1.1.2.1, hk_.1.1.2.2⟩)); have n6_ := Aside0.mk (Kd.R_reok rfl hy0 (fun k_ e_ => HO_257000.out.1 k_ e_)); have n7_ := Aside0.mk (Kd.R_reok rfl hy1 (fun k_ e_ => HO_257001.out.1 k_ e_)); have n8_ := Aside0.mk (blk_kept (Bq_ BK213) hkp (fun hs_ => Or.elim hs_ (fun e_ => (fun e_ => (Kd.R_ne HO_257000.out BK213.out (by decide)) e_) e_) (fun e_ => (fun e_ => (Kd.R_ne HO_257001.out BK213.out (by decide)) e_) e_))); have n9_ := Aside0.mk (blk_kept (Bq_ BK214) hkp (fun hs_ => Or.elim hs_ (fun e_ => (fun e_ => (Kd.R_ne HO_257000.out BK214.out (by decide)) e_) e_) (fun e_ => (fun e_ => (Kd.R_ne HO_257001.out BK214.out (by decide)) e_) e_))); have n10_ := Aside0.mk (blk_kept (Bq_ BK235) hkp (fun hs_ => Or.elim hs_ (fun e_ => (fun e_ => (Kd.R_ne HO_257000.out BK235.out (by decide)) e_) e_) (fun e_ => (fun e_ => (Kd.R_ne HO_257001.out BK235.out (by decide)) e_) e_))); have n11_ := Aside0.mk (blk_kept (Bq_ BK242) hkp (fun hs_ => Or.elim hs_ (fun e_ => (fun e_ => (Kd.R_ne HO_257000.out BK242.out (by decide)) e_) e_) (fun e_ => (fun e_ => (Kd.R_ne HO_257001.out BK242.out (by decide)) e_) e_))); have n12_ := Aside0.mk (blk_kept (Bq_ BK249) hkp (fun hs_ => Or.elim hs_ (fun e_ => (fun e_ => (Kd.R_ne HO_257000.out BK249.out (by decide)) e_) e_) (fun e_ => (fun e_ => (Kd.R_ne HO_257001.out BK249.out (by decide)) e_) e_))); have n13_ := Aside0.mk (blk_kept (Bq_ BK256) hkp (fun hs_ => Or.elim hs_ (fun e_ => (fun e_ => (Kd.R_ne HO_257000.out BK256.out (by decide)) e_) e_) (fun e_ => (fun e_ => (Kd.R_ne HO_257001.out BK256.out (by decide)) e_) e_))); have n14_ := Aside0.mk (hb); clear HO_236000; clear HO_236001; clear HO_243000; clear HO_243001; clear HO_250000; clear HO_250001; clear HO_257000; clear HO_257001; clear BK213; clear BK214; clear BK235; clear BK242; clear BK249; clear BK256; clear HB; have HO_236000 := n0_; have HO_236001 := n1_; have HO_243000 := n2_; have HO_243001 := n3_; have HO_250000 := n4_; have HO_250001 := n5_; have HO_257000 := n6_; have HO_257001 := n7_; have BK213 := n8_; have BK214 := n9_; have BK235 := n10_; have BK242 := n11_; have BK249 := n12_; have BK256 := n13_; have HB := n14_; clear n0_ n1_ n2_ n3_ n4_ n5_ n6_ n7_ n8_ n9_ n10_ n11_ n12_ n13_ n14_; (try clear hb); (try clear hkp); (try clear hy0); (try clear hy1); obtain ⟨hcz139_0, hcz139_1, hfz139_0, hfz139_1⟩ := Bc2_ BK256) | ((with_reducible refine gate_callee (f := 21) rfl ?_); refine goesL_ (some 69) rfl rfl Try.func21 (by kernel_rfl) rfl #[.agg #[.slice Ao81 t280.length co81, .slice Ao88 t281.length co88], .int .i64 1] rfl (by (try simp only [List.map_toArray, List.map_cons, List.map_nil]); first | done | (rw [show t280.length = t250.length from (Kd.R_reads' HO_257000.out).1.symm, show t281.length = t253.length from (Kd.R_reads' HO_257001.out).1.symm] <;> rfl) | rfl | (simp only [List.length_drop, List.length_take]; rfl)) ?_; (with_reducible refine (laws_heldEnv.calls kj34 _ _ t280 _ _ t281 1 t282 _ ?side1 ?side2 ?side3 ?side4 A121.out).mono ?_); (case side1 => exact Cq_ (Kd.R_reads' HO_257000.out).2.2); (case side2 => rw [show t280.length = t250.length from (Kd.R_reads' HO_257000.out).1.symm]; exact (Kd.R_reads' HO_257000.out).2.1); (case side3 => exact Cq_ (Kd.R_reads' HO_257001.out).2.2); (case side4 => rw [show t281.length = t253.length from (Kd.R_reads' HO_257001.out).1.symm]; exact (Kd.R_reads' HO_257001.out).2.1); rintro e w140 ⟨rfl, hb⟩; refine ⟨_, rfl, ?_⟩; replace HO_236000 := Rb_ HO_236000 hb; replace HO_236001 := Rb_ HO_236001 hb; replace HO_243000 := Rb_ HO_243000 hb; replace HO_243001 := Rb_ HO_243001 hb; replace HO_250000 := Rb_ HO_250000 hb; replace HO_250001 := Rb_ HO_250001 hb; replace HO_257000 := Rb_ HO_257000 hb; replace HO_257001 := Rb_ HO_257001 hb; replace BK213 := Bb_ BK213 hb; replace BK214 := Bb_ BK214 hb; replace BK235 := Bb_ BK235 hb; replace BK242 := Bb_ BK242 hb; replace BK249 := Bb_ BK249 hb; replace BK256 := Bb_ BK256 hb; replace HB := Hs_ HB hb; (try clear hb); (try clear hb2); (try clear hk); (try clear hi)))
              replace HO_236000 := Aside0.mk (Kd.R_drew HO_236000.out); replace HO_236001 := Aside0.mk (Kd.R_drew HO_236001.out); replace HO_243000 := Aside0.mk (Kd.R_drew HO_243000.out); replace HO_243001 := Aside0.mk (Kd.R_drew HO_243001.out); replace HO_250000 := Aside0.mk (Kd.R_drew HO_250000.out); replace HO_250001 := Aside0.mk (Kd.R_drew HO_250001.out); replace HO_257000 := Aside0.mk (Kd.R_drew HO_257000.out); replace HO_257001 := Aside0.mk (Kd.R_drew HO_257001.out); replace BK213 := Aside0.mk (blk_drew BK213.out); replace BK214 := Aside0.mk (blk_drew BK214.out); replace BK235 := Aside0.mk (blk_drew BK235.out); replace BK242 := Aside0.mk (blk_drew BK242.out); replace BK249 := Aside0.mk (blk_drew BK249.out); replace BK256 := Aside0.mk (blk_drew BK256.out); replace HB := Aside0.mk (below_drew1 HB.out)
              refine start_ (n := 7) (S := fun w' => w'.cell? ⟨gb213, 0, none⟩ = some (.slice A0_0 l0_0.length c0_0) ∧ w'.cell? ⟨gb213, 1, none⟩ = some (.slice A0_1 l0_1.length c0_1) ∧ w'.cell? ⟨gb214, 0, none⟩ = some (.slice A1_0 l1_0.length c1_0) ∧ w'.cell? ⟨gb214, 1, none⟩ = some (.slice A1_1 l1_1.length c1_1)) (ds := []) #[false, false, false, false, false, false, false] (by kernel_rfl) rfl rfl ⟨(blk_cell BK213.out 0).trans rfl, (blk_cell BK213.out 1).trans rfl, (blk_cell BK214.out 0).trans rfl, (blk_cell BK214.out 1).trans rfl⟩ (fun hHeld => ?_)
              generalize w140.drew = w141 at HO_236000 HO_236001 HO_243000 HO_243001 HO_250000 HO_250001 HO_257000 HO_257001 BK213 BK214 BK235 BK242 BK249 BK256 HB hHeld ⊢
              refine take_ (i := 0) (N := some 75) (v := ?_) (a' := ?_) #[true, false, false, false, false, false, false] rfl rfl (by kernel_rfl) (fun _ _ _ h => h) (Or.inl ⟨by rfl, ?_⟩) hHeld ?_ ?_
              rotate_left
              ·rintro w' ⟨s0, s1, s2, s3⟩
               go_simp
               with_reducible rfl
              rotate_left
              ·simp only [Act.put, List.setIfInBounds_toArray, List.set_cons_zero, List.set_cons_succ, i64_w, i32_w]
               rfl
              refine take_ (i := 2) (N := some 77) (v := ?_) (a' := ?_) #[true, false, true, false, false, false, false] rfl rfl (by kernel_rfl) (fun _ _ _ h => h) (Or.inl ⟨by rfl, ?_⟩) hHeld ?_ ?_
              rotate_left
              ·rintro w' ⟨s0, s1, s2, s3⟩
               go_simp
               with_reducible rfl
              rotate_left
              ·simp only [Act.put, List.setIfInBounds_toArray, List.set_cons_zero, List.set_cons_succ, i64_w, i32_w]
               rfl
              refine join_ (σ := Value × Value × Value × Value × Value × Value × Nat) 1 #[true, true, true, true, true, true, false] (fun s_ => [(76, .agg #[s_.1, s_.2.1]), (78, .agg #[s_.2.2.1, s_.2.2.2.1]), (79, .agg #[s_.2.2.2.2.1, s_.2.2.2.2.2.1]), (13, .pointer (some ⟨s_.2.2.2.2.2.2, 0, none⟩))]) (fun s_ w' => (w'.cell? ⟨gb213, 0, none⟩ = some (.slice A0_0 l0_0.length c0_0) ∧ w'.cell? ⟨gb213, 1, none⟩ = some (.slice A0_1 l0_1.length c0_1) ∧ w'.cell? ⟨gb214, 0, none⟩ = some (.slice A1_0 l1_0.length c1_0) ∧ w'.cell? ⟨gb214, 1, none⟩ = some (.slice A1_1 l1_1.length c1_1)) ∧ (Kd.R Kd.string 9 w' w.heap.size (fun k_ => some k_ ≠ (s_.2.2.1 : Value).ownBlock ∧ some k_ ≠ (s_.2.2.2.2.1 : Value).ownBlock ∧ some k_ ≠ (.slice Ao53 t229.length co53 : Value).ownBlock ∧ some k_ ≠ (.slice Ao61 t273.length co61 : Value).ownBlock ∧ some k_ ≠ (.slice Ao71 t276.length co71 : Value).ownBlock ∧ some k_ ≠ (.slice Ao81 t250.length co81 : Value).ownBlock) s_.1 t283) ∧ (Kd.R (Kd.int .i64) 3 w' w.heap.size (fun k_ => some k_ ≠ (s_.2.2.2.1 : Value).ownBlock ∧ some k_ ≠ (s_.2.2.2.2.2.1 : Value).ownBlock ∧ some k_ ≠ (.slice Ao55 t232.length co55 : Value).ownBlock ∧ some k_ ≠ (.slice Ao66 t274.length co66 : Value).ownBlock ∧ some k_ ≠ (.slice Ao77 t277.length co77 : Value).ownBlock ∧ some k_ ≠ (.slice Ao88 t253.length co88 : Value).ownBlock) s_.2.1 t286) ∧ (Kd.R Kd.string 9 w' w.heap.size (fun k_ => some k_ ≠ (s_.1 : Value).ownBlock ∧ some k_ ≠ (s_.2.2.2.2.1 : Value).ownBlock ∧ some k_ ≠ (.slice Ao53 t229.length co53 : Value).ownBlock ∧ some k_ ≠ (.slice Ao61 t273.length co61 : Value).ownBlock ∧ some k_ ≠ (.slice Ao71 t276.length co71 : Value).ownBlock ∧ some k_ ≠ (.slice Ao81 t250.length co81 : Value).ownBlock) s_.2.2.1 t289) ∧ (Kd.R (Kd.int .i64) 3 w' w.heap.size (fun k_ => some k_ ≠ (s_.2.1 : Value).ownBlock ∧ some k_ ≠ (s_.2.2.2.2.2.1 : Value).ownBlock ∧ some k_ ≠ (.slice Ao55 t232.length co55 : Value).ownBlock ∧ some k_ ≠ (.slice Ao66 t274.length co66 : Value).ownBlock ∧ some k_ ≠ (.slice Ao77 t277.length co77 : Value).ownBlock ∧ some k_ ≠ (.slice Ao88 t253.length co88 : Value).ownBlock) s_.2.2.2.1 t292) ∧ (Kd.R Kd.string 9 w' w.heap.size (fun k_ => some k_ ≠ (s_.1 : Value).ownBlock ∧ some k_ ≠ (s_.2.2.1 : Value).ownBlock ∧ some k_ ≠ (.slice Ao53 t229.length co53 : Value).ownBlock ∧ some k_ ≠ (.slice Ao61 t273.length co61 : Value).ownBlock ∧ some k_ ≠ (.slice Ao71 t276.length co71 : Value).ownBlock ∧ some k_ ≠ (.slice Ao81 t250.length co81 : Value).ownBlock) s_.2.2.2.2.1 t295) ∧ (Kd.R (Kd.int .i64) 3 w' w.heap.size (fun k_ => some k_ ≠ (s_.2.1 : Value).ownBlock ∧ some k_ ≠ (s_.2.2.2.1 : Value).ownBlock ∧ some k_ ≠ (.slice Ao55 t232.length co55 : Value).ownBlock ∧ some k_ ≠ (.slice Ao66 t274.length co66 : Value).ownBlock ∧ some k_ ≠ (.slice Ao77 t277.length co77 : Value).ownBlock ∧ some k_ ≠ (.slice Ao88 t253.length co88 : Value).ownBlock) s_.2.2.2.2.2.1 t298) ∧ (Kd.R Kd.string 9 w' w.heap.size (fun k_ => some k_ ≠ (s_.1 : Value).ownBlock ∧ some k_ ≠ (s_.2.2.1 : Value).ownBlock ∧ some k_ ≠ (s_.2.2.2.2.1 : Value).ownBlock ∧ some k_ ≠ (.slice Ao61 t273.length co61 : Value).ownBlock ∧ some k_ ≠ (.slice Ao71 t276.length co71 : Value).ownBlock ∧ some k_ ≠ (.slice Ao81 t250.length co81 : Value).ownBlock) (.slice Ao53 t229.length co53) t229) ∧ (Kd.R (Kd.int .i64) 3 w' w.heap.size (fun k_ => some k_ ≠ (s_.2.1 : Value).ownBlock ∧ some k_ ≠ (s_.2.2.2.1 : Value).ownBlock ∧ some k_ ≠ (s_.2.2.2.2.2.1 : Value).ownBlock ∧ some k_ ≠ (.slice Ao66 t274.length co66 : Value).ownBlock ∧ some k_ ≠ (.slice Ao77 t277.length co77 : Value).ownBlock ∧ some k_ ≠ (.slice Ao88 t253.length co88 : Value).ownBlock) (.slice Ao55 t232.length co55) t232) ∧ (Kd.R Kd.string 9 w' w.heap.size (fun k_ => some k_ ≠ (s_.1 : Value).ownBlock ∧ some k_ ≠ (s_.2.2.1 : Value).ownBlock ∧ some k_ ≠ (s_.2.2.2.2.1 : Value).ownBlock ∧ some k_ ≠ (.slice Ao53 t229.length co53 : Value).ownBlock ∧ some k_ ≠ (.slice Ao71 t276.length co71 : Value).ownBlock ∧ some k_ ≠ (.slice Ao81 t250.length co81 : Value).ownBlock) (.slice Ao61 t273.length co61) t273) ∧ (Kd.R (Kd.int .i64) 3 w' w.heap.size (fun k_ => some k_ ≠ (s_.2.1 : Value).ownBlock ∧ some k_ ≠ (s_.2.2.2.1 : Value).ownBlock ∧ some k_ ≠ (s_.2.2.2.2.2.1 : Value).ownBlock ∧ some k_ ≠ (.slice Ao55 t232.length co55 : Value).ownBlock ∧ some k_ ≠ (.slice Ao77 t277.length co77 : Value).ownBlock ∧ some k_ ≠ (.slice Ao88 t253.length co88 : Value).ownBlock) (.slice Ao66 t274.length co66) t274) ∧ (Kd.R Kd.string 9 w' w.heap.size (fun k_ => some k_ ≠ (s_.1 : Value).ownBlock ∧ some k_ ≠ (s_.2.2.1 : Value).ownBlock ∧ some k_ ≠ (s_.2.2.2.2.1 : Value).ownBlock ∧ some k_ ≠ (.slice Ao53 t229.length co53 : Value).ownBlock ∧ some k_ ≠ (.slice Ao61 t273.length co61 : Value).ownBlock ∧ some k_ ≠ (.slice Ao81 t250.length co81 : Value).ownBlock) (.slice Ao71 t276.length co71) t276) ∧ (Kd.R (Kd.int .i64) 3 w' w.heap.size (fun k_ => some k_ ≠ (s_.2.1 : Value).ownBlock ∧ some k_ ≠ (s_.2.2.2.1 : Value).ownBlock ∧ some k_ ≠ (s_.2.2.2.2.2.1 : Value).ownBlock ∧ some k_ ≠ (.slice Ao55 t232.length co55 : Value).ownBlock ∧ some k_ ≠ (.slice Ao66 t274.length co66 : Value).ownBlock ∧ some k_ ≠ (.slice Ao88 t253.length co88 : Value).ownBlock) (.slice Ao77 t277.length co77) t277) ∧ (Kd.R Kd.string 9 w' w.heap.size (fun k_ => some k_ ≠ (s_.1 : Value).ownBlock ∧ some k_ ≠ (s_.2.2.1 : Value).ownBlock ∧ some k_ ≠ (s_.2.2.2.2.1 : Value).ownBlock ∧ some k_ ≠ (.slice Ao53 t229.length co53 : Value).ownBlock ∧ some k_ ≠ (.slice Ao61 t273.length co61 : Value).ownBlock ∧ some k_ ≠ (.slice Ao71 t276.length co71 : Value).ownBlock) (.slice Ao81 t250.length co81) t280) ∧ (Kd.R (Kd.int .i64) 3 w' w.heap.size (fun k_ => some k_ ≠ (s_.2.1 : Value).ownBlock ∧ some k_ ≠ (s_.2.2.2.1 : Value).ownBlock ∧ some k_ ≠ (s_.2.2.2.2.2.1 : Value).ownBlock ∧ some k_ ≠ (.slice Ao55 t232.length co55 : Value).ownBlock ∧ some k_ ≠ (.slice Ao66 t274.length co66 : Value).ownBlock ∧ some k_ ≠ (.slice Ao77 t277.length co77 : Value).ownBlock) (.slice Ao88 t253.length co88) t281) ∧ (w'.heap[gb213]? = some (.cells #[.slice A0_0 l0_0.length c0_0, .slice A0_1 l0_1.length c0_1] 25 (0, 0))) ∧ (w'.heap[gb214]? = some (.cells #[.slice A1_0 l1_0.length c1_0, .slice A1_1 l1_1.length c1_1] 25 (0, 0))) ∧ (w'.heap[gb235]? = some (.cells #[.slice Ao53 t229.length co53, .slice Ao55 t232.length co55] 28 (0, 0))) ∧ (w'.heap[gb242]? = some (.cells #[.slice Ao61 t273.length co61, .slice Ao66 t274.length co66] 28 (0, 0))) ∧ (w'.heap[gb249]? = some (.cells #[.slice Ao71 t276.length co71, .slice Ao77 t277.length co77] 28 (0, 0))) ∧ (w'.heap[gb256]? = some (.cells #[.slice Ao81 t250.length co81, .slice Ao88 t253.length co88] 28 (0, 0))) ∧ (w'.heap[s_.2.2.2.2.2.2]? = some (.cells #[.slice none 0 0, .slice none 0 0] 28 (0, 0))) ∧ (w.heap.size ≤ s_.2.2.2.2.2.2) ∧ (w.heap.size ≤ s_.2.2.2.2.2.2) ∧ (gb213 ≠ s_.2.2.2.2.2.2) ∧ (s_.2.2.2.2.2.2 ≠ gb213) ∧ (gb214 ≠ s_.2.2.2.2.2.2) ∧ (s_.2.2.2.2.2.2 ≠ gb214) ∧ (gb235 ≠ s_.2.2.2.2.2.2) ∧ (s_.2.2.2.2.2.2 ≠ gb235) ∧ (gb242 ≠ s_.2.2.2.2.2.2) ∧ (s_.2.2.2.2.2.2 ≠ gb242) ∧ (gb249 ≠ s_.2.2.2.2.2.2) ∧ (s_.2.2.2.2.2.2 ≠ gb249) ∧ (gb256 ≠ s_.2.2.2.2.2.2) ∧ (s_.2.2.2.2.2.2 ≠ gb256) ∧ (Below w.heap.size w w')) ?_ ?_
              rotate_left
              ·intro hCont
               refine two_ (i := 1) (j := 5) (Ni := some 76) (Nj := some 13) #[true, true, true, false, false, false, false] #[true, false, true, false, false, true, false] rfl rfl rfl rfl (by kernel_rfl) (by decide) (by decide) (fun K hK => ?_) (fun K hK => ?_)
               ·skip
                refine goes_ Try.func15 (by kernel_rfl) rfl #[.agg #[.slice A0_0 l0_0.length c0_0, .slice A0_1 l0_1.length c0_1]] (by rfl) rfl rfl Mp_ ?_
                with_reducible refine (laws_toEnv.calls kj34 _ _ l0_0 _ _ l0_1 t283 t286 _ ?side1 ?side2 ?side3 ?side4 A124.out).mono ?_
                (case side1 => exact Sc_ HR0_0 HB)
                (case side2 => exact HC0_0.out)
                (case side3 => exact Sc_ HR0_1 HB)
                (case side4 => exact HC0_1.out)
                rintro e w142 ⟨v284, v287, rfl, ho0, ho1, hb⟩
                refine ⟨_, rfl, ?_⟩
                have HO285 := Aside0.mk (Kd.R_lower (Kd.R_new' (Kd.R_new' (Kd.R_new' (Kd.R_new' ho0 (Kd.R_lt (Rq_ HO_236000))) (Kd.R_lt (Rq_ HO_243000))) (Kd.R_lt (Rq_ HO_250000))) (Kd.R_lt (Rq_ HO_257000))) (below_size (Hf_ HB))); have HO288 := Aside0.mk (Kd.R_lower (Kd.R_new' (Kd.R_new' (Kd.R_new' (Kd.R_new' ho1 (Kd.R_lt (Rq_ HO_236001))) (Kd.R_lt (Rq_ HO_243001))) (Kd.R_lt (Rq_ HO_250001))) (Kd.R_lt (Rq_ HO_257001))) (below_size (Hf_ HB))); replace HO_236000 := Rl_ HO_236000 ho0 hb; replace HO_236001 := Rl_ HO_236001 ho1 hb; replace HO_243000 := Rl_ HO_243000 ho0 hb; replace HO_243001 := Rl_ HO_243001 ho1 hb; replace HO_250000 := Rl_ HO_250000 ho0 hb; replace HO_250001 := Rl_ HO_250001 ho1 hb; replace HO_257000 := Rl_ HO_257000 ho0 hb; replace HO_257001 := Rl_ HO_257001 ho1 hb; replace BK213 := Bb_ BK213 hb; replace BK214 := Bb_ BK214 hb; replace BK235 := Bb_ BK235 hb; replace BK242 := Bb_ BK242 hb; replace BK249 := Bb_ BK249 hb; replace BK256 := Bb_ BK256 hb; replace HB := Hs_ HB hb
                (try clear hb)
                (try clear hb2)
                (try clear hk)
                (try clear hi)
                (try clear ho0)
                (try clear ho1)
                refine hK.out _ _ ⟨(blk_cell BK213.out 0).trans rfl, (blk_cell BK213.out 1).trans rfl, (blk_cell BK214.out 0).trans rfl, (blk_cell BK214.out 1).trans rfl⟩ (fun hHeld => ?_)
                clear hK K
                refine norm_ (a' := ?_) ?_ ?_
                rotate_left
                ·show Act.put _ (some 76) _ = _
                 simp only [Act.put, List.setIfInBounds_toArray, List.set_cons_zero, List.set_cons_succ, i64_w, i32_w]
                 rfl
                refine two_ (i := 3) (j := 5) (Ni := some 78) (Nj := some 13) #[true, true, true, true, false, false, false] #[true, true, true, false, false, true, false] rfl rfl rfl rfl (by kernel_rfl) (by decide) (by decide) (fun K hK => ?_) (fun K hK => ?_)
                ·skip
                 refine goes_ Try.func15 (by kernel_rfl) rfl #[.agg #[.slice A1_0 l1_0.length c1_0, .slice A1_1 l1_1.length c1_1]] (by rfl) rfl rfl Mp_ ?_
                 with_reducible refine (laws_toEnv.calls kj34 _ _ l1_0 _ _ l1_1 t289 t292 _ ?side1 ?side2 ?side3 ?side4 A125.out).mono ?_
                 (case side1 => exact Sc_ HR1_0 HB)
                 (case side2 => exact HC1_0.out)
                 (case side3 => exact Sc_ HR1_1 HB)
                 (case side4 => exact HC1_1.out)
                 rintro e w143 ⟨v290, v293, rfl, ho0, ho1, hb⟩
                 refine ⟨_, rfl, ?_⟩
                 have HO291 := Aside0.mk (Kd.R_lower (Kd.R_new' (Kd.R_new' (Kd.R_new' (Kd.R_new' (Kd.R_new' ho0 (Kd.R_lt (Rq_ HO_236000))) (Kd.R_lt (Rq_ HO_243000))) (Kd.R_lt (Rq_ HO_250000))) (Kd.R_lt (Rq_ HO_257000))) (Kd.R_lt (Rq_ HO285))) (below_size (Hf_ HB))); have HO294 := Aside0.mk (Kd.R_lower (Kd.R_new' (Kd.R_new' (Kd.R_new' (Kd.R_new' (Kd.R_new' ho1 (Kd.R_lt (Rq_ HO_236001))) (Kd.R_lt (Rq_ HO_243001))) (Kd.R_lt (Rq_ HO_250001))) (Kd.R_lt (Rq_ HO_257001))) (Kd.R_lt (Rq_ HO288))) (below_size (Hf_ HB))); replace HO_236000 := Rl_ HO_236000 ho0 hb; replace HO_236001 := Rl_ HO_236001 ho1 hb; replace HO_243000 := Rl_ HO_243000 ho0 hb; replace HO_243001 := Rl_ HO_243001 ho1 hb; replace HO_250000 := Rl_ HO_250000 ho0 hb; replace HO_250001 := Rl_ HO_250001 ho1 hb; replace HO_257000 := Rl_ HO_257000 ho0 hb; replace HO_257001 := Rl_ HO_257001 ho1 hb; replace HO285 := Rl_ HO285 ho0 hb; replace HO288 := Rl_ HO288 ho1 hb; replace BK213 := Bb_ BK213 hb; replace BK214 := Bb_ BK214 hb; replace BK235 := Bb_ BK235 hb; replace BK242 := Bb_ BK242 hb; replace BK249 := Bb_ BK249 hb; replace BK256 := Bb_ BK256 hb; replace HB := Hs_ HB hb
                 (try clear hb)
                 (try clear hb2)
                 (try clear hk)
                 (try clear hi)
                 (try clear ho0)
                 (try clear ho1)
                 obtain ⟨Ao144, co144, eo144⟩ := Kd.R_slice HO285.out
                 (first | subst eo144 | (injection eo144 with f1_ f2_ f3_; have f4_ := f1_.symm; have f5_ := f3_.symm; clear f1_ f2_ f3_; subst f4_; subst f5_))
                 obtain ⟨Ao145, co145, eo145⟩ := Kd.R_slice HO288.out
                 (first | subst eo145 | (injection eo145 with f1_ f2_ f3_; have f4_ := f1_.symm; have f5_ := f3_.symm; clear f1_ f2_ f3_; subst f4_; subst f5_))
                 obtain ⟨Ao146, co146, eo146⟩ := Kd.R_slice HO291.out
                 (first | subst eo146 | (injection eo146 with f1_ f2_ f3_; have f4_ := f1_.symm; have f5_ := f3_.symm; clear f1_ f2_ f3_; subst f4_; subst f5_))
                 obtain ⟨Ao147, co147, eo147⟩ := Kd.R_slice HO294.out
                 (first | subst eo147 | (injection eo147 with f1_ f2_ f3_; have f4_ := f1_.symm; have f5_ := f3_.symm; clear f1_ f2_ f3_; subst f4_; subst f5_))
                 refine hK.out _ _ ⟨(blk_cell BK213.out 0).trans rfl, (blk_cell BK213.out 1).trans rfl, (blk_cell BK214.out 0).trans rfl, (blk_cell BK214.out 1).trans rfl⟩ (fun hHeld => ?_)
                 clear hK K
                 refine norm_ (a' := ?_) ?_ ?_
                 rotate_left
                 ·show Act.put _ (some 78) _ = _
                  simp only [Act.put, List.setIfInBounds_toArray, List.set_cons_zero, List.set_cons_succ, i64_w, i32_w]
                  rfl
                 refine two_ (i := 4) (j := 5) (Ni := some 79) (Nj := some 13) #[true, true, true, true, true, false, false] #[true, true, true, true, false, true, false] rfl rfl rfl rfl (by kernel_rfl) (by decide) (by decide) (fun K hK => ?_) (fun K hK => ?_)
                 ·skip
                  refine goes_ Try.func23 (by kernel_rfl) rfl #[.agg #[.slice Ao144 t283.length co144, .slice Ao145 t286.length co145], .agg #[.slice Ao146 t289.length co146, .slice Ao147 t292.length co147]] (by rfl) rfl rfl Mp_ ?_
                  with_reducible refine (impl_Together.calls kj34 _ _ t283 _ _ t286 _ _ t289 _ _ t292 t295 t298 _ ?side1 ?side2 ?side3 ?side4 ?side5 ?side6 ?side7 ?side8 A126.out).mono ?_
                  (case side1 => exact Cq_ (Kd.R_reads' HO285.out).2.2)
                  (case side2 => exact (Kd.R_reads' HO285.out).2.1)
                  (case side3 => exact Cq_ (Kd.R_reads' HO288.out).2.2)
                  (case side4 => exact (Kd.R_reads' HO288.out).2.1)
                  (case side5 => exact Cq_ (Kd.R_reads' HO291.out).2.2)
                  (case side6 => exact (Kd.R_reads' HO291.out).2.1)
                  (case side7 => exact Cq_ (Kd.R_reads' HO294.out).2.2)
                  (case side8 => exact (Kd.R_reads' HO294.out).2.1)
                  rintro e w148 ⟨v296, v299, rfl, ho0, ho1, hb⟩
                  refine ⟨_, rfl, ?_⟩
                  have HO297 := Aside0.mk (Kd.R_lower (Kd.R_new' (Kd.R_new' (Kd.R_new' (Kd.R_new' (Kd.R_new' (Kd.R_new' ho0 (Kd.R_lt (Rq_ HO_236000))) (Kd.R_lt (Rq_ HO_243000))) (Kd.R_lt (Rq_ HO_250000))) (Kd.R_lt (Rq_ HO_257000))) (Kd.R_lt (Rq_ HO285))) (Kd.R_lt (Rq_ HO291))) (below_size (Hf_ HB))); have HO300 := Aside0.mk (Kd.R_lower (Kd.R_new' (Kd.R_new' (Kd.R_new' (Kd.R_new' (Kd.R_new' (Kd.R_new' ho1 (Kd.R_lt (Rq_ HO_236001))) (Kd.R_lt (Rq_ HO_243001))) (Kd.R_lt (Rq_ HO_250001))) (Kd.R_lt (Rq_ HO_257001))) (Kd.R_lt (Rq_ HO288))) (Kd.R_lt (Rq_ HO294))) (below_size (Hf_ HB))); replace HO_236000 := Rl_ HO_236000 ho0 hb; replace HO_236001 := Rl_ HO_236001 ho1 hb; replace HO_243000 := Rl_ HO_243000 ho0 hb; replace HO_243001 := Rl_ HO_243001 ho1 hb; replace HO_250000 := Rl_ HO_250000 ho0 hb; replace HO_250001 := Rl_ HO_250001 ho1 hb; replace HO_257000 := Rl_ HO_257000 ho0 hb; replace HO_257001 := Rl_ HO_257001 ho1 hb; replace HO285 := Rl_ HO285 ho0 hb; replace HO288 := Rl_ HO288 ho1 hb; replace HO291 := Rl_ HO291 ho0 hb; replace HO294 := Rl_ HO294 ho1 hb; replace BK213 := Bb_ BK213 hb; replace BK214 := Bb_ BK214 hb; replace BK235 := Bb_ BK235 hb; replace BK242 := Bb_ BK242 hb; replace BK249 := Bb_ BK249 hb; replace BK256 := Bb_ BK256 hb; replace HB := Hs_ HB hb
                  (try clear hb)
                  (try clear hb2)
                  (try clear hk)
                  (try clear hi)
                  (try clear ho0)
                  (try clear ho1)
                  refine hK.out _ _ ⟨(blk_cell BK213.out 0).trans rfl, (blk_cell BK213.out 1).trans rfl, (blk_cell BK214.out 0).trans rfl, (blk_cell BK214.out 1).trans rfl⟩ (fun hHeld => ?_)
                  clear hK K
                  refine norm_ (a' := ?_) ?_ ?_
                  rotate_left
                  ·show Act.put _ (some 79) _ = _
                   simp only [Act.put, List.setIfInBounds_toArray, List.set_cons_zero, List.set_cons_succ, i64_w, i32_w]
                   rfl
                  refine one_ (i := 5) (N := some 13) #[true, true, true, true, true, true, false] rfl rfl (by kernel_rfl) (by decide) (fun K hK => ?_)
                  refine box_step ?hg (N := 13) ?hd (cs := #[.slice none 0 0, .slice none 0 0]) (t := 28) ?hr ?_; (case hd => rfl); (case hg => rfl); (case hr => first | (go_simp; done) | (go_simp; rfl))
                  intro gb301 hg w149 hbox hb
                  have BK301 := Aside0.mk (hbox); have GW301 := Hg_ HB hg; have GE301 := GW301; have NB213_301 := Bl_ BK213 hg; have NB301_213 := Bm_ NB213_301; have NB214_301 := Bl_ BK214 hg; have NB301_214 := Bm_ NB214_301; have NB235_301 := Bl_ BK235 hg; have NB301_235 := Bm_ NB235_301; have NB242_301 := Bl_ BK242 hg; have NB301_242 := Bm_ NB242_301; have NB249_301 := Bl_ BK249 hg; have NB301_249 := Bm_ NB249_301; have NB256_301 := Bl_ BK256 hg; have NB301_256 := Bm_ NB256_301; replace HO_236000 := Rb_ HO_236000 hb; replace HO_236001 := Rb_ HO_236001 hb; replace HO_243000 := Rb_ HO_243000 hb; replace HO_243001 := Rb_ HO_243001 hb; replace HO_250000 := Rb_ HO_250000 hb; replace HO_250001 := Rb_ HO_250001 hb; replace HO_257000 := Rb_ HO_257000 hb; replace HO_257001 := Rb_ HO_257001 hb; replace HO285 := Rb_ HO285 hb; replace HO288 := Rb_ HO288 hb; replace HO291 := Rb_ HO291 hb; replace HO294 := Rb_ HO294 hb; replace HO297 := Rb_ HO297 hb; replace HO300 := Rb_ HO300 hb; replace BK213 := Bb_ BK213 hb; replace BK214 := Bb_ BK214 hb; replace BK235 := Bb_ BK235 hb; replace BK242 := Bb_ BK242 hb; replace BK249 := Bb_ BK249 hb; replace BK256 := Bb_ BK256 hb; replace HB := Hs_ HB hb
                  clear hb hbox hg
                  refine hK.out _ _ ⟨(blk_cell BK213.out 0).trans rfl, (blk_cell BK213.out 1).trans rfl, (blk_cell BK214.out 0).trans rfl, (blk_cell BK214.out 1).trans rfl⟩ (fun hHeld => ?_)
                  clear hK K
                  refine norm_ (a' := ?_) ?_ ?_
                  rotate_left
                  ·show Act.put _ (some 13) _ = _
                   simp only [Act.put, List.setIfInBounds_toArray, List.set_cons_zero, List.set_cons_succ, i64_w, i32_w]
                   rfl
                  exact norm_ (by simp only [putAll, Act.put, List.setIfInBounds_toArray, List.set_cons_zero, List.set_cons_succ]) (hCont (.slice Ao144 t283.length co144, .slice Ao145 t286.length co145, .slice Ao146 t289.length co146, .slice Ao147 t292.length co147, v296, v299, gb301) _ ⟨hHeld, (Rm_ HO285 (fun _ hk => ⟨hk.1.2, ⟨hk.2, ⟨hk.1.1.1.1.1.2, ⟨hk.1.1.1.1.2, ⟨hk.1.1.1.2, hk.1.1.2⟩⟩⟩⟩⟩)), (Rm_ HO288 (fun _ hk => ⟨hk.1.2, ⟨hk.2, ⟨hk.1.1.1.1.1.2, ⟨hk.1.1.1.1.2, ⟨hk.1.1.1.2, hk.1.1.2⟩⟩⟩⟩⟩)), (Rm_ HO291 (fun _ hk => ⟨hk.1.2, ⟨hk.2, ⟨hk.1.1.1.1.1.2, ⟨hk.1.1.1.1.2, ⟨hk.1.1.1.2, hk.1.1.2⟩⟩⟩⟩⟩)), (Rm_ HO294 (fun _ hk => ⟨hk.1.2, ⟨hk.2, ⟨hk.1.1.1.1.1.2, ⟨hk.1.1.1.1.2, ⟨hk.1.1.1.2, hk.1.1.2⟩⟩⟩⟩⟩)), (Rm_ HO297 (fun _ hk => ⟨hk.1.2, ⟨hk.2, ⟨hk.1.1.1.1.1.2, ⟨hk.1.1.1.1.2, ⟨hk.1.1.1.2, hk.1.1.2⟩⟩⟩⟩⟩)), (Rm_ HO300 (fun _ hk => ⟨hk.1.2, ⟨hk.2, ⟨hk.1.1.1.1.1.2, ⟨hk.1.1.1.1.2, ⟨hk.1.1.1.2, hk.1.1.2⟩⟩⟩⟩⟩)), (Rm_ HO_236000 (fun _ hk => ⟨hk.1.1.2, ⟨hk.1.2, ⟨hk.2, ⟨hk.1.1.1.1, ⟨hk.1.1.1.2.1, hk.1.1.1.2.2⟩⟩⟩⟩⟩)), (Rm_ HO_236001 (fun _ hk => ⟨hk.1.1.2, ⟨hk.1.2, ⟨hk.2, ⟨hk.1.1.1.1, ⟨hk.1.1.1.2.1, hk.1.1.1.2.2⟩⟩⟩⟩⟩)), (Rm_ HO_243000 (fun _ hk => ⟨hk.1.1.2, ⟨hk.1.2, ⟨hk.2, ⟨hk.1.1.1.1, ⟨hk.1.1.1.2.1, hk.1.1.1.2.2⟩⟩⟩⟩⟩)), (Rm_ HO_243001 (fun _ hk => ⟨hk.1.1.2, ⟨hk.1.2, ⟨hk.2, ⟨hk.1.1.1.1, ⟨hk.1.1.1.2.1, hk.1.1.1.2.2⟩⟩⟩⟩⟩)), (Rm_ HO_250000 (fun _ hk => ⟨hk.1.1.2, ⟨hk.1.2, ⟨hk.2, ⟨hk.1.1.1.1, ⟨hk.1.1.1.2.1, hk.1.1.1.2.2⟩⟩⟩⟩⟩)), (Rm_ HO_250001 (fun _ hk => ⟨hk.1.1.2, ⟨hk.1.2, ⟨hk.2, ⟨hk.1.1.1.1, ⟨hk.1.1.1.2.1, hk.1.1.1.2.2⟩⟩⟩⟩⟩)), (Rm_ HO_257000 (fun _ hk => ⟨hk.1.1.2, ⟨hk.1.2, ⟨hk.2, ⟨hk.1.1.1.1, ⟨hk.1.1.1.2.1, hk.1.1.1.2.2⟩⟩⟩⟩⟩)), (Rm_ HO_257001 (fun _ hk => ⟨hk.1.1.2, ⟨hk.1.2, ⟨hk.2, ⟨hk.1.1.1.1, ⟨hk.1.1.1.2.1, hk.1.1.1.2.2⟩⟩⟩⟩⟩)), (Bq_ BK213), (Bq_ BK214), (Bq_ BK235), (Bq_ BK242), (Bq_ BK249), (Bq_ BK256), (Bq_ BK301), GW301.out, GE301.out, NB213_301.out, NB301_213.out, NB214_301.out, NB301_214.out, NB235_301.out, NB301_235.out, NB242_301.out, NB301_242.out, NB249_301.out, NB301_249.out, NB256_301.out, NB301_256.out, (Hf_ HB)⟩)
                 ·skip
                  refine box_step ?hg (N := 13) ?hd (cs := #[.slice none 0 0, .slice none 0 0]) (t := 28) ?hr ?_; (case hd => rfl); (case hg => rfl); (case hr => first | (go_simp; done) | (go_simp; rfl))
                  intro gb301 hg w144 hbox hb
                  have BK301 := Aside0.mk (hbox); have GW301 := Hg_ HB hg; have GE301 := GW301; have NB213_301 := Bl_ BK213 hg; have NB301_213 := Bm_ NB213_301; have NB214_301 := Bl_ BK214 hg; have NB301_214 := Bm_ NB214_301; have NB235_301 := Bl_ BK235 hg; have NB301_235 := Bm_ NB235_301; have NB242_301 := Bl_ BK242 hg; have NB301_242 := Bm_ NB242_301; have NB249_301 := Bl_ BK249 hg; have NB301_249 := Bm_ NB249_301; have NB256_301 := Bl_ BK256 hg; have NB301_256 := Bm_ NB256_301; replace HO_236000 := Rb_ HO_236000 hb; replace HO_236001 := Rb_ HO_236001 hb; replace HO_243000 := Rb_ HO_243000 hb; replace HO_243001 := Rb_ HO_243001 hb; replace HO_250000 := Rb_ HO_250000 hb; replace HO_250001 := Rb_ HO_250001 hb; replace HO_257000 := Rb_ HO_257000 hb; replace HO_257001 := Rb_ HO_257001 hb; replace HO285 := Rb_ HO285 hb; replace HO288 := Rb_ HO288 hb; replace HO291 := Rb_ HO291 hb; replace HO294 := Rb_ HO294 hb; replace BK213 := Bb_ BK213 hb; replace BK214 := Bb_ BK214 hb; replace BK235 := Bb_ BK235 hb; replace BK242 := Bb_ BK242 hb; replace BK249 := Bb_ BK249 hb; replace BK256 := Bb_ BK256 hb; replace HB := Hs_ HB hb
                  clear hb hbox hg
                  obtain ⟨Ao145, co145, eo145⟩ := Kd.R_slice HO285.out
                  (first | subst eo145 | (injection eo145 with f1_ f2_ f3_; have f4_ := f1_.symm; have f5_ := f3_.symm; clear f1_ f2_ f3_; subst f4_; subst f5_))
                  obtain ⟨Ao146, co146, eo146⟩ := Kd.R_slice HO288.out
                  (first | subst eo146 | (injection eo146 with f1_ f2_ f3_; have f4_ := f1_.symm; have f5_ := f3_.symm; clear f1_ f2_ f3_; subst f4_; subst f5_))
                  obtain ⟨Ao147, co147, eo147⟩ := Kd.R_slice HO291.out
                  (first | subst eo147 | (injection eo147 with f1_ f2_ f3_; have f4_ := f1_.symm; have f5_ := f3_.symm; clear f1_ f2_ f3_; subst f4_; subst f5_))
                  obtain ⟨Ao148, co148, eo148⟩ := Kd.R_slice HO294.out
                  (first | subst eo148 | (injection eo148 with f1_ f2_ f3_; have f4_ := f1_.symm; have f5_ := f3_.symm; clear f1_ f2_ f3_; subst f4_; subst f5_))
                  refine hK.out _ _ ⟨(blk_cell BK213.out 0).trans rfl, (blk_cell BK213.out 1).trans rfl, (blk_cell BK214.out 0).trans rfl, (blk_cell BK214.out 1).trans rfl⟩ (fun hHeld => ?_)
                  clear hK K
                  refine norm_ (a' := ?_) ?_ ?_
                  rotate_left
                  ·show Act.put _ (some 13) _ = _
                   simp only [Act.put, List.setIfInBounds_toArray, List.set_cons_zero, List.set_cons_succ, i64_w, i32_w]
                   rfl
                  refine one_ (i := 4) (N := some 79) #[true, true, true, true, true, true, false] rfl rfl (by kernel_rfl) (by decide) (fun K hK => ?_)
                  refine goes_ Try.func23 (by kernel_rfl) rfl #[.agg #[.slice Ao145 t283.length co145, .slice Ao146 t286.length co146], .agg #[.slice Ao147 t289.length co147, .slice Ao148 t292.length co148]] (by rfl) rfl rfl Mp_ ?_
                  with_reducible refine (impl_Together.calls kj34 _ _ t283 _ _ t286 _ _ t289 _ _ t292 t295 t298 _ ?side1 ?side2 ?side3 ?side4 ?side5 ?side6 ?side7 ?side8 A126.out).mono ?_
                  (case side1 => exact Cq_ (Kd.R_reads' HO285.out).2.2)
                  (case side2 => exact (Kd.R_reads' HO285.out).2.1)
                  (case side3 => exact Cq_ (Kd.R_reads' HO288.out).2.2)
                  (case side4 => exact (Kd.R_reads' HO288.out).2.1)
                  (case side5 => exact Cq_ (Kd.R_reads' HO291.out).2.2)
                  (case side6 => exact (Kd.R_reads' HO291.out).2.1)
                  (case side7 => exact Cq_ (Kd.R_reads' HO294.out).2.2)
                  (case side8 => exact (Kd.R_reads' HO294.out).2.1)
                  rintro e w149 ⟨v296, v299, rfl, ho0, ho1, hb⟩
                  refine ⟨_, rfl, ?_⟩
                  have HO297 := Aside0.mk (Kd.R_lower (Kd.R_new' (Kd.R_new' (Kd.R_new' (Kd.R_new' (Kd.R_new' (Kd.R_new' ho0 (Kd.R_lt (Rq_ HO_236000))) (Kd.R_lt (Rq_ HO_243000))) (Kd.R_lt (Rq_ HO_250000))) (Kd.R_lt (Rq_ HO_257000))) (Kd.R_lt (Rq_ HO285))) (Kd.R_lt (Rq_ HO291))) (below_size (Hf_ HB))); have HO300 := Aside0.mk (Kd.R_lower (Kd.R_new' (Kd.R_new' (Kd.R_new' (Kd.R_new' (Kd.R_new' (Kd.R_new' ho1 (Kd.R_lt (Rq_ HO_236001))) (Kd.R_lt (Rq_ HO_243001))) (Kd.R_lt (Rq_ HO_250001))) (Kd.R_lt (Rq_ HO_257001))) (Kd.R_lt (Rq_ HO288))) (Kd.R_lt (Rq_ HO294))) (below_size (Hf_ HB))); replace HO_236000 := Rl_ HO_236000 ho0 hb; replace HO_236001 := Rl_ HO_236001 ho1 hb; replace HO_243000 := Rl_ HO_243000 ho0 hb; replace HO_243001 := Rl_ HO_243001 ho1 hb; replace HO_250000 := Rl_ HO_250000 ho0 hb; replace HO_250001 := Rl_ HO_250001 ho1 hb; replace HO_257000 := Rl_ HO_257000 ho0 hb; replace HO_257001 := Rl_ HO_257001 ho1 hb; replace HO285 := Rl_ HO285 ho0 hb; replace HO288 := Rl_ HO288 ho1 hb; replace HO291 := Rl_ HO291 ho0 hb; replace HO294 := Rl_ HO294 ho1 hb; replace BK213 := Bb_ BK213 hb; replace BK214 := Bb_ BK214 hb; replace BK235 := Bb_ BK235 hb; replace BK242 := Bb_ BK242 hb; replace BK249 := Bb_ BK249 hb; replace BK256 := Bb_ BK256 hb; replace BK301 := Bb_ BK301 hb; replace HB := Hs_ HB hb
                  (try clear hb)
                  (try clear hb2)
                  (try clear hk)
                  (try clear hi)
                  (try clear ho0)
                  (try clear ho1)
                  refine hK.out _ _ ⟨(blk_cell BK213.out 0).trans rfl, (blk_cell BK213.out 1).trans rfl, (blk_cell BK214.out 0).trans rfl, (blk_cell BK214.out 1).trans rfl⟩ (fun hHeld => ?_)
                  clear hK K
                  refine norm_ (a' := ?_) ?_ ?_
                  rotate_left
                  ·show Act.put _ (some 79) _ = _
                   simp only [Act.put, List.setIfInBounds_toArray, List.set_cons_zero, List.set_cons_succ, i64_w, i32_w]
                   rfl
                  exact norm_ (by simp only [putAll, Act.put, List.setIfInBounds_toArray, List.set_cons_zero, List.set_cons_succ]) (hCont (.slice Ao145 t283.length co145, .slice Ao146 t286.length co146, .slice Ao147 t289.length co147, .slice Ao148 t292.length co148, v296, v299, gb301) _ ⟨hHeld, (Rm_ HO285 (fun _ hk => ⟨hk.1.2, ⟨hk.2, ⟨hk.1.1.1.1.1.2, ⟨hk.1.1.1.1.2, ⟨hk.1.1.1.2, hk.1.1.2⟩⟩⟩⟩⟩)), (Rm_ HO288 (fun _ hk => ⟨hk.1.2, ⟨hk.2, ⟨hk.1.1.1.1.1.2, ⟨hk.1.1.1.1.2, ⟨hk.1.1.1.2, hk.1.1.2⟩⟩⟩⟩⟩)), (Rm_ HO291 (fun _ hk => ⟨hk.1.2, ⟨hk.2, ⟨hk.1.1.1.1.1.2, ⟨hk.1.1.1.1.2, ⟨hk.1.1.1.2, hk.1.1.2⟩⟩⟩⟩⟩)), (Rm_ HO294 (fun _ hk => ⟨hk.1.2, ⟨hk.2, ⟨hk.1.1.1.1.1.2, ⟨hk.1.1.1.1.2, ⟨hk.1.1.1.2, hk.1.1.2⟩⟩⟩⟩⟩)), (Rm_ HO297 (fun _ hk => ⟨hk.1.2, ⟨hk.2, ⟨hk.1.1.1.1.1.2, ⟨hk.1.1.1.1.2, ⟨hk.1.1.1.2, hk.1.1.2⟩⟩⟩⟩⟩)), (Rm_ HO300 (fun _ hk => ⟨hk.1.2, ⟨hk.2, ⟨hk.1.1.1.1.1.2, ⟨hk.1.1.1.1.2, ⟨hk.1.1.1.2, hk.1.1.2⟩⟩⟩⟩⟩)), (Rm_ HO_236000 (fun _ hk => ⟨hk.1.1.2, ⟨hk.1.2, ⟨hk.2, ⟨hk.1.1.1.1, ⟨hk.1.1.1.2.1, hk.1.1.1.2.2⟩⟩⟩⟩⟩)), (Rm_ HO_236001 (fun _ hk => ⟨hk.1.1.2, ⟨hk.1.2, ⟨hk.2, ⟨hk.1.1.1.1, ⟨hk.1.1.1.2.1, hk.1.1.1.2.2⟩⟩⟩⟩⟩)), (Rm_ HO_243000 (fun _ hk => ⟨hk.1.1.2, ⟨hk.1.2, ⟨hk.2, ⟨hk.1.1.1.1, ⟨hk.1.1.1.2.1, hk.1.1.1.2.2⟩⟩⟩⟩⟩)), (Rm_ HO_243001 (fun _ hk => ⟨hk.1.1.2, ⟨hk.1.2, ⟨hk.2, ⟨hk.1.1.1.1, ⟨hk.1.1.1.2.1, hk.1.1.1.2.2⟩⟩⟩⟩⟩)), (Rm_ HO_250000 (fun _ hk => ⟨hk.1.1.2, ⟨hk.1.2, ⟨hk.2, ⟨hk.1.1.1.1, ⟨hk.1.1.1.2.1, hk.1.1.1.2.2⟩⟩⟩⟩⟩)), (Rm_ HO_250001 (fun _ hk => ⟨hk.1.1.2, ⟨hk.1.2, ⟨hk.2, ⟨hk.1.1.1.1, ⟨hk.1.1.1.2.1, hk.1.1.1.2.2⟩⟩⟩⟩⟩)), (Rm_ HO_257000 (fun _ hk => ⟨hk.1.1.2, ⟨hk.1.2, ⟨hk.2, ⟨hk.1.1.1.1, ⟨hk.1.1.1.2.1, hk.1.1.1.2.2⟩⟩⟩⟩⟩)), (Rm_ HO_257001 (fun _ hk => ⟨hk.1.1.2, ⟨hk.1.2, ⟨hk.2, ⟨hk.1.1.1.1, ⟨hk.1.1.1.2.1, hk.1.1.1.2.2⟩⟩⟩⟩⟩)), (Bq_ BK213), (Bq_ BK214), (Bq_ BK235), (Bq_ BK242), (Bq_ BK249), (Bq_ BK256), (Bq_ BK301), GW301.out, GE301.out, NB213_301.out, NB301_213.out, NB214_301.out, NB301_214.out, NB235_301.out, NB301_235.out, NB242_301.out, NB301_242.out, NB249_301.out, NB301_249.out, NB256_301.out, NB301_256.out, (Hf_ HB)⟩)
                ·skip
                 refine box_step ?hg (N := 13) ?hd (cs := #[.slice none 0 0, .slice none 0 0]) (t := 28) ?hr ?_; (case hd => rfl); (case hg => rfl); (case hr => first | (go_simp; done) | (go_simp; rfl))
                 intro gb301 hg w143 hbox hb
                 have BK301 := Aside0.mk (hbox); have GW301 := Hg_ HB hg; have GE301 := GW301; have NB213_301 := Bl_ BK213 hg; have NB301_213 := Bm_ NB213_301; have NB214_301 := Bl_ BK214 hg; have NB301_214 := Bm_ NB214_301; have NB235_301 := Bl_ BK235 hg; have NB301_235 := Bm_ NB235_301; have NB242_301 := Bl_ BK242 hg; have NB301_242 := Bm_ NB242_301; have NB249_301 := Bl_ BK249 hg; have NB301_249 := Bm_ NB249_301; have NB256_301 := Bl_ BK256 hg; have NB301_256 := Bm_ NB256_301; replace HO_236000 := Rb_ HO_236000 hb; replace HO_236001 := Rb_ HO_236001 hb; replace HO_243000 := Rb_ HO_243000 hb; replace HO_243001 := Rb_ HO_243001 hb; replace HO_250000 := Rb_ HO_250000 hb; replace HO_250001 := Rb_ HO_250001 hb; replace HO_257000 := Rb_ HO_257000 hb; replace HO_257001 := Rb_ HO_257001 hb; replace HO285 := Rb_ HO285 hb; replace HO288 := Rb_ HO288 hb; replace BK213 := Bb_ BK213 hb; replace BK214 := Bb_ BK214 hb; replace BK235 := Bb_ BK235 hb; replace BK242 := Bb_ BK242 hb; replace BK249 := Bb_ BK249 hb; replace BK256 := Bb_ BK256 hb; replace HB := Hs_ HB hb
                 clear hb hbox hg
                 refine hK.out _ _ ⟨(blk_cell BK213.out 0).trans rfl, (blk_cell BK213.out 1).trans rfl, (blk_cell BK214.out 0).trans rfl, (blk_cell BK214.out 1).trans rfl⟩ (fun hHeld => ?_)
                 clear hK K
                 refine norm_ (a' := ?_) ?_ ?_
                 rotate_left
                 ·show Act.put _ (some 13) _ = _
                  simp only [Act.put, List.setIfInBounds_toArray, List.set_cons_zero, List.set_cons_succ, i64_w, i32_w]
                  rfl
                 refine one_ (i := 3) (N := some 78) #[true, true, true, true, false, true, false] rfl rfl (by kernel_rfl) (by decide) (fun K hK => ?_)
                 refine goes_ Try.func15 (by kernel_rfl) rfl #[.agg #[.slice A1_0 l1_0.length c1_0, .slice A1_1 l1_1.length c1_1]] (by rfl) rfl rfl Mp_ ?_
                 with_reducible refine (laws_toEnv.calls kj34 _ _ l1_0 _ _ l1_1 t289 t292 _ ?side1 ?side2 ?side3 ?side4 A125.out).mono ?_
                 (case side1 => exact Sc_ HR1_0 HB)
                 (case side2 => exact HC1_0.out)
                 (case side3 => exact Sc_ HR1_1 HB)
                 (case side4 => exact HC1_1.out)
                 rintro e w144 ⟨v290, v293, rfl, ho0, ho1, hb⟩
                 refine ⟨_, rfl, ?_⟩
                 have HO291 := Aside0.mk (Kd.R_lower (Kd.R_new' (Kd.R_new' (Kd.R_new' (Kd.R_new' (Kd.R_new' ho0 (Kd.R_lt (Rq_ HO_236000))) (Kd.R_lt (Rq_ HO_243000))) (Kd.R_lt (Rq_ HO_250000))) (Kd.R_lt (Rq_ HO_257000))) (Kd.R_lt (Rq_ HO285))) (below_size (Hf_ HB))); have HO294 := Aside0.mk (Kd.R_lower (Kd.R_new' (Kd.R_new' (Kd.R_new' (Kd.R_new' (Kd.R_new' ho1 (Kd.R_lt (Rq_ HO_236001))) (Kd.R_lt (Rq_ HO_243001))) (Kd.R_lt (Rq_ HO_250001))) (Kd.R_lt (Rq_ HO_257001))) (Kd.R_lt (Rq_ HO288))) (below_size (Hf_ HB))); replace HO_236000 := Rl_ HO_236000 ho0 hb; replace HO_236001 := Rl_ HO_236001 ho1 hb; replace HO_243000 := Rl_ HO_243000 ho0 hb; replace HO_243001 := Rl_ HO_243001 ho1 hb; replace HO_250000 := Rl_ HO_250000 ho0 hb; replace HO_250001 := Rl_ HO_250001 ho1 hb; replace HO_257000 := Rl_ HO_257000 ho0 hb; replace HO_257001 := Rl_ HO_257001 ho1 hb; replace HO285 := Rl_ HO285 ho0 hb; replace HO288 := Rl_ HO288 ho1 hb; replace BK213 := Bb_ BK213 hb; replace BK214 := Bb_ BK214 hb; replace BK235 := Bb_ BK235 hb; replace BK242 := Bb_ BK242 hb; replace BK249 := Bb_ BK249 hb; replace BK256 := Bb_ BK256 hb; replace BK301 := Bb_ BK301 hb; replace HB := Hs_ HB hb
                 (try clear hb)
                 (try clear hb2)
                 (try clear hk)
                 (try clear hi)
                 (try clear ho0)
                 (try clear ho1)
                 obtain ⟨Ao145, co145, eo145⟩ := Kd.R_slice HO285.out
                 (first | subst eo145 | (injection eo145 with f1_ f2_ f3_; have f4_ := f1_.symm; have f5_ := f3_.symm; clear f1_ f2_ f3_; subst f4_; subst f5_))
                 obtain ⟨Ao146, co146, eo146⟩ := Kd.R_slice HO288.out
                 (first | subst eo146 | (injection eo146 with f1_ f2_ f3_; have f4_ := f1_.symm; have f5_ := f3_.symm; clear f1_ f2_ f3_; subst f4_; subst f5_))
                 obtain ⟨Ao147, co147, eo147⟩ := Kd.R_slice HO291.out
                 (first | subst eo147 | (injection eo147 with f1_ f2_ f3_; have f4_ := f1_.symm; have f5_ := f3_.symm; clear f1_ f2_ f3_; subst f4_; subst f5_))
                 obtain ⟨Ao148, co148, eo148⟩ := Kd.R_slice HO294.out
                 (first | subst eo148 | (injection eo148 with f1_ f2_ f3_; have f4_ := f1_.symm; have f5_ := f3_.symm; clear f1_ f2_ f3_; subst f4_; subst f5_))
                 refine hK.out _ _ ⟨(blk_cell BK213.out 0).trans rfl, (blk_cell BK213.out 1).trans rfl, (blk_cell BK214.out 0).trans rfl, (blk_cell BK214.out 1).trans rfl⟩ (fun hHeld => ?_)
                 clear hK K
                 refine norm_ (a' := ?_) ?_ ?_
                 rotate_left
                 ·show Act.put _ (some 78) _ = _
                  simp only [Act.put, List.setIfInBounds_toArray, List.set_cons_zero, List.set_cons_succ, i64_w, i32_w]
                  rfl
                 refine one_ (i := 4) (N := some 79) #[true, true, true, true, true, true, false] rfl rfl (by kernel_rfl) (by decide) (fun K hK => ?_)
                 refine goes_ Try.func23 (by kernel_rfl) rfl #[.agg #[.slice Ao145 t283.length co145, .slice Ao146 t286.length co146], .agg #[.slice Ao147 t289.length co147, .slice Ao148 t292.length co148]] (by rfl) rfl rfl Mp_ ?_
                 with_reducible refine (impl_Together.calls kj34 _ _ t283 _ _ t286 _ _ t289 _ _ t292 t295 t298 _ ?side1 ?side2 ?side3 ?side4 ?side5 ?side6 ?side7 ?side8 A126.out).mono ?_
                 (case side1 => exact Cq_ (Kd.R_reads' HO285.out).2.2)
                 (case side2 => exact (Kd.R_reads' HO285.out).2.1)
                 (case side3 => exact Cq_ (Kd.R_reads' HO288.out).2.2)
                 (case side4 => exact (Kd.R_reads' HO288.out).2.1)
                 (case side5 => exact Cq_ (Kd.R_reads' HO291.out).2.2)
                 (case side6 => exact (Kd.R_reads' HO291.out).2.1)
                 (case side7 => exact Cq_ (Kd.R_reads' HO294.out).2.2)
                 (case side8 => exact (Kd.R_reads' HO294.out).2.1)
                 rintro e w149 ⟨v296, v299, rfl, ho0, ho1, hb⟩
                 refine ⟨_, rfl, ?_⟩
                 have HO297 := Aside0.mk (Kd.R_lower (Kd.R_new' (Kd.R_new' (Kd.R_new' (Kd.R_new' (Kd.R_new' (Kd.R_new' ho0 (Kd.R_lt (Rq_ HO_236000))) (Kd.R_lt (Rq_ HO_243000))) (Kd.R_lt (Rq_ HO_250000))) (Kd.R_lt (Rq_ HO_257000))) (Kd.R_lt (Rq_ HO285))) (Kd.R_lt (Rq_ HO291))) (below_size (Hf_ HB))); have HO300 := Aside0.mk (Kd.R_lower (Kd.R_new' (Kd.R_new' (Kd.R_new' (Kd.R_new' (Kd.R_new' (Kd.R_new' ho1 (Kd.R_lt (Rq_ HO_236001))) (Kd.R_lt (Rq_ HO_243001))) (Kd.R_lt (Rq_ HO_250001))) (Kd.R_lt (Rq_ HO_257001))) (Kd.R_lt (Rq_ HO288))) (Kd.R_lt (Rq_ HO294))) (below_size (Hf_ HB))); replace HO_236000 := Rl_ HO_236000 ho0 hb; replace HO_236001 := Rl_ HO_236001 ho1 hb; replace HO_243000 := Rl_ HO_243000 ho0 hb; replace HO_243001 := Rl_ HO_243001 ho1 hb; replace HO_250000 := Rl_ HO_250000 ho0 hb; replace HO_250001 := Rl_ HO_250001 ho1 hb; replace HO_257000 := Rl_ HO_257000 ho0 hb; replace HO_257001 := Rl_ HO_257001 ho1 hb; replace HO285 := Rl_ HO285 ho0 hb; replace HO288 := Rl_ HO288 ho1 hb; replace HO291 := Rl_ HO291 ho0 hb; replace HO294 := Rl_ HO294 ho1 hb; replace BK213 := Bb_ BK213 hb; replace BK214 := Bb_ BK214 hb; replace BK235 := Bb_ BK235 hb; replace BK242 := Bb_ BK242 hb; replace BK249 := Bb_ BK249 hb; replace BK256 := Bb_ BK256 hb; replace BK301 := Bb_ BK301 hb; replace HB := Hs_ HB hb
                 (try clear hb)
                 (try clear hb2)
                 (try clear hk)
                 (try clear hi)
                 (try clear ho0)
                 (try clear ho1)
                 refine hK.out _ _ ⟨(blk_cell BK213.out 0).trans rfl, (blk_cell BK213.out 1).trans rfl, (blk_cell BK214.out 0).trans rfl, (blk_cell BK214.out 1).trans rfl⟩ (fun hHeld => ?_)
                 clear hK K
                 refine norm_ (a' := ?_) ?_ ?_
                 rotate_left
                 ·show Act.put _ (some 79) _ = _
                  simp only [Act.put, List.setIfInBounds_toArray, List.set_cons_zero, List.set_cons_succ, i64_w, i32_w]
                  rfl
                 exact norm_ (by simp only [putAll, Act.put, List.setIfInBounds_toArray, List.set_cons_zero, List.set_cons_succ]) (hCont (.slice Ao145 t283.length co145, .slice Ao146 t286.length co146, .slice Ao147 t289.length co147, .slice Ao148 t292.length co148, v296, v299, gb301) _ ⟨hHeld, (Rm_ HO285 (fun _ hk => ⟨hk.1.2, ⟨hk.2, ⟨hk.1.1.1.1.1.2, ⟨hk.1.1.1.1.2, ⟨hk.1.1.1.2, hk.1.1.2⟩⟩⟩⟩⟩)), (Rm_ HO288 (fun _ hk => ⟨hk.1.2, ⟨hk.2, ⟨hk.1.1.1.1.1.2, ⟨hk.1.1.1.1.2, ⟨hk.1.1.1.2, hk.1.1.2⟩⟩⟩⟩⟩)), (Rm_ HO291 (fun _ hk => ⟨hk.1.2, ⟨hk.2, ⟨hk.1.1.1.1.1.2, ⟨hk.1.1.1.1.2, ⟨hk.1.1.1.2, hk.1.1.2⟩⟩⟩⟩⟩)), (Rm_ HO294 (fun _ hk => ⟨hk.1.2, ⟨hk.2, ⟨hk.1.1.1.1.1.2, ⟨hk.1.1.1.1.2, ⟨hk.1.1.1.2, hk.1.1.2⟩⟩⟩⟩⟩)), (Rm_ HO297 (fun _ hk => ⟨hk.1.2, ⟨hk.2, ⟨hk.1.1.1.1.1.2, ⟨hk.1.1.1.1.2, ⟨hk.1.1.1.2, hk.1.1.2⟩⟩⟩⟩⟩)), (Rm_ HO300 (fun _ hk => ⟨hk.1.2, ⟨hk.2, ⟨hk.1.1.1.1.1.2, ⟨hk.1.1.1.1.2, ⟨hk.1.1.1.2, hk.1.1.2⟩⟩⟩⟩⟩)), (Rm_ HO_236000 (fun _ hk => ⟨hk.1.1.2, ⟨hk.1.2, ⟨hk.2, ⟨hk.1.1.1.1, ⟨hk.1.1.1.2.1, hk.1.1.1.2.2⟩⟩⟩⟩⟩)), (Rm_ HO_236001 (fun _ hk => ⟨hk.1.1.2, ⟨hk.1.2, ⟨hk.2, ⟨hk.1.1.1.1, ⟨hk.1.1.1.2.1, hk.1.1.1.2.2⟩⟩⟩⟩⟩)), (Rm_ HO_243000 (fun _ hk => ⟨hk.1.1.2, ⟨hk.1.2, ⟨hk.2, ⟨hk.1.1.1.1, ⟨hk.1.1.1.2.1, hk.1.1.1.2.2⟩⟩⟩⟩⟩)), (Rm_ HO_243001 (fun _ hk => ⟨hk.1.1.2, ⟨hk.1.2, ⟨hk.2, ⟨hk.1.1.1.1, ⟨hk.1.1.1.2.1, hk.1.1.1.2.2⟩⟩⟩⟩⟩)), (Rm_ HO_250000 (fun _ hk => ⟨hk.1.1.2, ⟨hk.1.2, ⟨hk.2, ⟨hk.1.1.1.1, ⟨hk.1.1.1.2.1, hk.1.1.1.2.2⟩⟩⟩⟩⟩)), (Rm_ HO_250001 (fun _ hk => ⟨hk.1.1.2, ⟨hk.1.2, ⟨hk.2, ⟨hk.1.1.1.1, ⟨hk.1.1.1.2.1, hk.1.1.1.2.2⟩⟩⟩⟩⟩)), (Rm_ HO_257000 (fun _ hk => ⟨hk.1.1.2, ⟨hk.1.2, ⟨hk.2, ⟨hk.1.1.1.1, ⟨hk.1.1.1.2.1, hk.1.1.1.2.2⟩⟩⟩⟩⟩)), (Rm_ HO_257001 (fun _ hk => ⟨hk.1.1.2, ⟨hk.1.2, ⟨hk.2, ⟨hk.1.1.1.1, ⟨hk.1.1.1.2.1, hk.1.1.1.2.2⟩⟩⟩⟩⟩)), (Bq_ BK213), (Bq_ BK214), (Bq_ BK235), (Bq_ BK242), (Bq_ BK249), (Bq_ BK256), (Bq_ BK301), GW301.out, GE301.out, NB213_301.out, NB301_213.out, NB214_301.out, NB301_214.out, NB235_301.out, NB301_235.out, NB242_301.out, NB301_242.out, NB249_301.out, NB301_249.out, NB256_301.out, NB301_256.out, (Hf_ HB)⟩)
               ·skip
                refine box_step ?hg (N := 13) ?hd (cs := #[.slice none 0 0, .slice none 0 0]) (t := 28) ?hr ?_; (case hd => rfl); (case hg => rfl); (case hr => first | (go_simp; done) | (go_simp; rfl))
                intro gb301 hg w142 hbox hb
                have BK301 := Aside0.mk (hbox); have GW301 := Hg_ HB hg; have GE301 := GW301; have NB213_301 := Bl_ BK213 hg; have NB301_213 := Bm_ NB213_301; have NB214_301 := Bl_ BK214 hg; have NB301_214 := Bm_ NB214_301; have NB235_301 := Bl_ BK235 hg; have NB301_235 := Bm_ NB235_301; have NB242_301 := Bl_ BK242 hg; have NB301_242 := Bm_ NB242_301; have NB249_301 := Bl_ BK249 hg; have NB301_249 := Bm_ NB249_301; have NB256_301 := Bl_ BK256 hg; have NB301_256 := Bm_ NB256_301; replace HO_236000 := Rb_ HO_236000 hb; replace HO_236001 := Rb_ HO_236001 hb; replace HO_243000 := Rb_ HO_243000 hb; replace HO_243001 := Rb_ HO_243001 hb; replace HO_250000 := Rb_ HO_250000 hb; replace HO_250001 := Rb_ HO_250001 hb; replace HO_257000 := Rb_ HO_257000 hb; replace HO_257001 := Rb_ HO_257001 hb; replace BK213 := Bb_ BK213 hb; replace BK214 := Bb_ BK214 hb; replace BK235 := Bb_ BK235 hb; replace BK242 := Bb_ BK242 hb; replace BK249 := Bb_ BK249 hb; replace BK256 := Bb_ BK256 hb; replace HB := Hs_ HB hb
                clear hb hbox hg
                refine hK.out _ _ ⟨(blk_cell BK213.out 0).trans rfl, (blk_cell BK213.out 1).trans rfl, (blk_cell BK214.out 0).trans rfl, (blk_cell BK214.out 1).trans rfl⟩ (fun hHeld => ?_)
                clear hK K
                refine norm_ (a' := ?_) ?_ ?_
                rotate_left
                ·show Act.put _ (some 13) _ = _
                 simp only [Act.put, List.setIfInBounds_toArray, List.set_cons_zero, List.set_cons_succ, i64_w, i32_w]
                 rfl
                refine one_ (i := 1) (N := some 76) #[true, true, true, false, false, true, false] rfl rfl (by kernel_rfl) (by decide) (fun K hK => ?_)
                refine goes_ Try.func15 (by kernel_rfl) rfl #[.agg #[.slice A0_0 l0_0.length c0_0, .slice A0_1 l0_1.length c0_1]] (by rfl) rfl rfl Mp_ ?_
                with_reducible refine (laws_toEnv.calls kj34 _ _ l0_0 _ _ l0_1 t283 t286 _ ?side1 ?side2 ?side3 ?side4 A124.out).mono ?_
                (case side1 => exact Sc_ HR0_0 HB)
                (case side2 => exact HC0_0.out)
                (case side3 => exact Sc_ HR0_1 HB)
                (case side4 => exact HC0_1.out)
                rintro e w143 ⟨v284, v287, rfl, ho0, ho1, hb⟩
                refine ⟨_, rfl, ?_⟩
                have HO285 := Aside0.mk (Kd.R_lower (Kd.R_new' (Kd.R_new' (Kd.R_new' (Kd.R_new' ho0 (Kd.R_lt (Rq_ HO_236000))) (Kd.R_lt (Rq_ HO_243000))) (Kd.R_lt (Rq_ HO_250000))) (Kd.R_lt (Rq_ HO_257000))) (below_size (Hf_ HB))); have HO288 := Aside0.mk (Kd.R_lower (Kd.R_new' (Kd.R_new' (Kd.R_new' (Kd.R_new' ho1 (Kd.R_lt (Rq_ HO_236001))) (Kd.R_lt (Rq_ HO_243001))) (Kd.R_lt (Rq_ HO_250001))) (Kd.R_lt (Rq_ HO_257001))) (below_size (Hf_ HB))); replace HO_236000 := Rl_ HO_236000 ho0 hb; replace HO_236001 := Rl_ HO_236001 ho1 hb; replace HO_243000 := Rl_ HO_243000 ho0 hb; replace HO_243001 := Rl_ HO_243001 ho1 hb; replace HO_250000 := Rl_ HO_250000 ho0 hb; replace HO_250001 := Rl_ HO_250001 ho1 hb; replace HO_257000 := Rl_ HO_257000 ho0 hb; replace HO_257001 := Rl_ HO_257001 ho1 hb; replace BK213 := Bb_ BK213 hb; replace BK214 := Bb_ BK214 hb; replace BK235 := Bb_ BK235 hb; replace BK242 := Bb_ BK242 hb; replace BK249 := Bb_ BK249 hb; replace BK256 := Bb_ BK256 hb; replace BK301 := Bb_ BK301 hb; replace HB := Hs_ HB hb
                (try clear hb)
                (try clear hb2)
                (try clear hk)
                (try clear hi)
                (try clear ho0)
                (try clear ho1)
                refine hK.out _ _ ⟨(blk_cell BK213.out 0).trans rfl, (blk_cell BK213.out 1).trans rfl, (blk_cell BK214.out 0).trans rfl, (blk_cell BK214.out 1).trans rfl⟩ (fun hHeld => ?_)
                clear hK K
                refine norm_ (a' := ?_) ?_ ?_
                rotate_left
                ·show Act.put _ (some 76) _ = _
                 simp only [Act.put, List.setIfInBounds_toArray, List.set_cons_zero, List.set_cons_succ, i64_w, i32_w]
                 rfl
                refine one_ (i := 3) (N := some 78) #[true, true, true, true, false, true, false] rfl rfl (by kernel_rfl) (by decide) (fun K hK => ?_)
                refine goes_ Try.func15 (by kernel_rfl) rfl #[.agg #[.slice A1_0 l1_0.length c1_0, .slice A1_1 l1_1.length c1_1]] (by rfl) rfl rfl Mp_ ?_
                with_reducible refine (laws_toEnv.calls kj34 _ _ l1_0 _ _ l1_1 t289 t292 _ ?side1 ?side2 ?side3 ?side4 A125.out).mono ?_
                (case side1 => exact Sc_ HR1_0 HB)
                (case side2 => exact HC1_0.out)
                (case side3 => exact Sc_ HR1_1 HB)
                (case side4 => exact HC1_1.out)
                rintro e w144 ⟨v290, v293, rfl, ho0, ho1, hb⟩
                refine ⟨_, rfl, ?_⟩
                have HO291 := Aside0.mk (Kd.R_lower (Kd.R_new' (Kd.R_new' (Kd.R_new' (Kd.R_new' (Kd.R_new' ho0 (Kd.R_lt (Rq_ HO_236000))) (Kd.R_lt (Rq_ HO_243000))) (Kd.R_lt (Rq_ HO_250000))) (Kd.R_lt (Rq_ HO_257000))) (Kd.R_lt (Rq_ HO285))) (below_size (Hf_ HB))); have HO294 := Aside0.mk (Kd.R_lower (Kd.R_new' (Kd.R_new' (Kd.R_new' (Kd.R_new' (Kd.R_new' ho1 (Kd.R_lt (Rq_ HO_236001))) (Kd.R_lt (Rq_ HO_243001))) (Kd.R_lt (Rq_ HO_250001))) (Kd.R_lt (Rq_ HO_257001))) (Kd.R_lt (Rq_ HO288))) (below_size (Hf_ HB))); replace HO_236000 := Rl_ HO_236000 ho0 hb; replace HO_236001 := Rl_ HO_236001 ho1 hb; replace HO_243000 := Rl_ HO_243000 ho0 hb; replace HO_243001 := Rl_ HO_243001 ho1 hb; replace HO_250000 := Rl_ HO_250000 ho0 hb; replace HO_250001 := Rl_ HO_250001 ho1 hb; replace HO_257000 := Rl_ HO_257000 ho0 hb; replace HO_257001 := Rl_ HO_257001 ho1 hb; replace HO285 := Rl_ HO285 ho0 hb; replace HO288 := Rl_ HO288 ho1 hb; replace BK213 := Bb_ BK213 hb; replace BK214 := Bb_ BK214 hb; replace BK235 := Bb_ BK235 hb; replace BK242 := Bb_ BK242 hb; replace BK249 := Bb_ BK249 hb; replace BK256 := Bb_ BK256 hb; replace BK301 := Bb_ BK301 hb; replace HB := Hs_ HB hb
                (try clear hb)
                (try clear hb2)
                (try clear hk)
                (try clear hi)
                (try clear ho0)
                (try clear ho1)
                obtain ⟨Ao145, co145, eo145⟩ := Kd.R_slice HO285.out
                (first | subst eo145 | (injection eo145 with f1_ f2_ f3_; have f4_ := f1_.symm; have f5_ := f3_.symm; clear f1_ f2_ f3_; subst f4_; subst f5_))
                obtain ⟨Ao146, co146, eo146⟩ := Kd.R_slice HO288.out
                (first | subst eo146 | (injection eo146 with f1_ f2_ f3_; have f4_ := f1_.symm; have f5_ := f3_.symm; clear f1_ f2_ f3_; subst f4_; subst f5_))
                obtain ⟨Ao147, co147, eo147⟩ := Kd.R_slice HO291.out
                (first | subst eo147 | (injection eo147 with f1_ f2_ f3_; have f4_ := f1_.symm; have f5_ := f3_.symm; clear f1_ f2_ f3_; subst f4_; subst f5_))
                obtain ⟨Ao148, co148, eo148⟩ := Kd.R_slice HO294.out
                (first | subst eo148 | (injection eo148 with f1_ f2_ f3_; have f4_ := f1_.symm; have f5_ := f3_.symm; clear f1_ f2_ f3_; subst f4_; subst f5_))
                refine hK.out _ _ ⟨(blk_cell BK213.out 0).trans rfl, (blk_cell BK213.out 1).trans rfl, (blk_cell BK214.out 0).trans rfl, (blk_cell BK214.out 1).trans rfl⟩ (fun hHeld => ?_)
                clear hK K
                refine norm_ (a' := ?_) ?_ ?_
                rotate_left
                ·show Act.put _ (some 78) _ = _
                 simp only [Act.put, List.setIfInBounds_toArray, List.set_cons_zero, List.set_cons_succ, i64_w, i32_w]
                 rfl
                refine one_ (i := 4) (N := some 79) #[true, true, true, true, true, true, false] rfl rfl (by kernel_rfl) (by decide) (fun K hK => ?_)
                refine goes_ Try.func23 (by kernel_rfl) rfl #[.agg #[.slice Ao145 t283.length co145, .slice Ao146 t286.length co146], .agg #[.slice Ao147 t289.length co147, .slice Ao148 t292.length co148]] (by rfl) rfl rfl Mp_ ?_
                with_reducible refine (impl_Together.calls kj34 _ _ t283 _ _ t286 _ _ t289 _ _ t292 t295 t298 _ ?side1 ?side2 ?side3 ?side4 ?side5 ?side6 ?side7 ?side8 A126.out).mono ?_
                (case side1 => exact Cq_ (Kd.R_reads' HO285.out).2.2)
                (case side2 => exact (Kd.R_reads' HO285.out).2.1)
                (case side3 => exact Cq_ (Kd.R_reads' HO288.out).2.2)
                (case side4 => exact (Kd.R_reads' HO288.out).2.1)
                (case side5 => exact Cq_ (Kd.R_reads' HO291.out).2.2)
                (case side6 => exact (Kd.R_reads' HO291.out).2.1)
                (case side7 => exact Cq_ (Kd.R_reads' HO294.out).2.2)
                (case side8 => exact (Kd.R_reads' HO294.out).2.1)
                rintro e w149 ⟨v296, v299, rfl, ho0, ho1, hb⟩
                refine ⟨_, rfl, ?_⟩
                have HO297 := Aside0.mk (Kd.R_lower (Kd.R_new' (Kd.R_new' (Kd.R_new' (Kd.R_new' (Kd.R_new' (Kd.R_new' ho0 (Kd.R_lt (Rq_ HO_236000))) (Kd.R_lt (Rq_ HO_243000))) (Kd.R_lt (Rq_ HO_250000))) (Kd.R_lt (Rq_ HO_257000))) (Kd.R_lt (Rq_ HO285))) (Kd.R_lt (Rq_ HO291))) (below_size (Hf_ HB))); have HO300 := Aside0.mk (Kd.R_lower (Kd.R_new' (Kd.R_new' (Kd.R_new' (Kd.R_new' (Kd.R_new' (Kd.R_new' ho1 (Kd.R_lt (Rq_ HO_236001))) (Kd.R_lt (Rq_ HO_243001))) (Kd.R_lt (Rq_ HO_250001))) (Kd.R_lt (Rq_ HO_257001))) (Kd.R_lt (Rq_ HO288))) (Kd.R_lt (Rq_ HO294))) (below_size (Hf_ HB))); replace HO_236000 := Rl_ HO_236000 ho0 hb; replace HO_236001 := Rl_ HO_236001 ho1 hb; replace HO_243000 := Rl_ HO_243000 ho0 hb; replace HO_243001 := Rl_ HO_243001 ho1 hb; replace HO_250000 := Rl_ HO_250000 ho0 hb; replace HO_250001 := Rl_ HO_250001 ho1 hb; replace HO_257000 := Rl_ HO_257000 ho0 hb; replace HO_257001 := Rl_ HO_257001 ho1 hb; replace HO285 := Rl_ HO285 ho0 hb; replace HO288 := Rl_ HO288 ho1 hb; replace HO291 := Rl_ HO291 ho0 hb; replace HO294 := Rl_ HO294 ho1 hb; replace BK213 := Bb_ BK213 hb; replace BK214 := Bb_ BK214 hb; replace BK235 := Bb_ BK235 hb; replace BK242 := Bb_ BK242 hb; replace BK249 := Bb_ BK249 hb; replace BK256 := Bb_ BK256 hb; replace BK301 := Bb_ BK301 hb; replace HB := Hs_ HB hb
                (try clear hb)
                (try clear hb2)
                (try clear hk)
                (try clear hi)
                (try clear ho0)
                (try clear ho1)
                refine hK.out _ _ ⟨(blk_cell BK213.out 0).trans rfl, (blk_cell BK213.out 1).trans rfl, (blk_cell BK214.out 0).trans rfl, (blk_cell BK214.out 1).trans rfl⟩ (fun hHeld => ?_)
                clear hK K
                refine norm_ (a' := ?_) ?_ ?_
                rotate_left
                ·show Act.put _ (some 79) _ = _
                 simp only [Act.put, List.setIfInBounds_toArray, List.set_cons_zero, List.set_cons_succ, i64_w, i32_w]
                 rfl
                exact norm_ (by simp only [putAll, Act.put, List.setIfInBounds_toArray, List.set_cons_zero, List.set_cons_succ]) (hCont (.slice Ao145 t283.length co145, .slice Ao146 t286.length co146, .slice Ao147 t289.length co147, .slice Ao148 t292.length co148, v296, v299, gb301) _ ⟨hHeld, (Rm_ HO285 (fun _ hk => ⟨hk.1.2, ⟨hk.2, ⟨hk.1.1.1.1.1.2, ⟨hk.1.1.1.1.2, ⟨hk.1.1.1.2, hk.1.1.2⟩⟩⟩⟩⟩)), (Rm_ HO288 (fun _ hk => ⟨hk.1.2, ⟨hk.2, ⟨hk.1.1.1.1.1.2, ⟨hk.1.1.1.1.2, ⟨hk.1.1.1.2, hk.1.1.2⟩⟩⟩⟩⟩)), (Rm_ HO291 (fun _ hk => ⟨hk.1.2, ⟨hk.2, ⟨hk.1.1.1.1.1.2, ⟨hk.1.1.1.1.2, ⟨hk.1.1.1.2, hk.1.1.2⟩⟩⟩⟩⟩)), (Rm_ HO294 (fun _ hk => ⟨hk.1.2, ⟨hk.2, ⟨hk.1.1.1.1.1.2, ⟨hk.1.1.1.1.2, ⟨hk.1.1.1.2, hk.1.1.2⟩⟩⟩⟩⟩)), (Rm_ HO297 (fun _ hk => ⟨hk.1.2, ⟨hk.2, ⟨hk.1.1.1.1.1.2, ⟨hk.1.1.1.1.2, ⟨hk.1.1.1.2, hk.1.1.2⟩⟩⟩⟩⟩)), (Rm_ HO300 (fun _ hk => ⟨hk.1.2, ⟨hk.2, ⟨hk.1.1.1.1.1.2, ⟨hk.1.1.1.1.2, ⟨hk.1.1.1.2, hk.1.1.2⟩⟩⟩⟩⟩)), (Rm_ HO_236000 (fun _ hk => ⟨hk.1.1.2, ⟨hk.1.2, ⟨hk.2, ⟨hk.1.1.1.1, ⟨hk.1.1.1.2.1, hk.1.1.1.2.2⟩⟩⟩⟩⟩)), (Rm_ HO_236001 (fun _ hk => ⟨hk.1.1.2, ⟨hk.1.2, ⟨hk.2, ⟨hk.1.1.1.1, ⟨hk.1.1.1.2.1, hk.1.1.1.2.2⟩⟩⟩⟩⟩)), (Rm_ HO_243000 (fun _ hk => ⟨hk.1.1.2, ⟨hk.1.2, ⟨hk.2, ⟨hk.1.1.1.1, ⟨hk.1.1.1.2.1, hk.1.1.1.2.2⟩⟩⟩⟩⟩)), (Rm_ HO_243001 (fun _ hk => ⟨hk.1.1.2, ⟨hk.1.2, ⟨hk.2, ⟨hk.1.1.1.1, ⟨hk.1.1.1.2.1, hk.1.1.1.2.2⟩⟩⟩⟩⟩)), (Rm_ HO_250000 (fun _ hk => ⟨hk.1.1.2, ⟨hk.1.2, ⟨hk.2, ⟨hk.1.1.1.1, ⟨hk.1.1.1.2.1, hk.1.1.1.2.2⟩⟩⟩⟩⟩)), (Rm_ HO_250001 (fun _ hk => ⟨hk.1.1.2, ⟨hk.1.2, ⟨hk.2, ⟨hk.1.1.1.1, ⟨hk.1.1.1.2.1, hk.1.1.1.2.2⟩⟩⟩⟩⟩)), (Rm_ HO_257000 (fun _ hk => ⟨hk.1.1.2, ⟨hk.1.2, ⟨hk.2, ⟨hk.1.1.1.1, ⟨hk.1.1.1.2.1, hk.1.1.1.2.2⟩⟩⟩⟩⟩)), (Rm_ HO_257001 (fun _ hk => ⟨hk.1.1.2, ⟨hk.1.2, ⟨hk.2, ⟨hk.1.1.1.1, ⟨hk.1.1.1.2.1, hk.1.1.1.2.2⟩⟩⟩⟩⟩)), (Bq_ BK213), (Bq_ BK214), (Bq_ BK235), (Bq_ BK242), (Bq_ BK249), (Bq_ BK256), (Bq_ BK301), GW301.out, GE301.out, NB213_301.out, NB301_213.out, NB214_301.out, NB301_214.out, NB235_301.out, NB301_235.out, NB242_301.out, NB301_242.out, NB249_301.out, NB301_249.out, NB256_301.out, NB301_256.out, (Hf_ HB)⟩)
              rintro ⟨v284, v287, v290, v293, v296, v299, gb301⟩ w150 ⟨hS_, h0_, h1_, h2_, h3_, h4_, h5_, h6_, h7_, h8_, h9_, h10_, h11_, h12_, h13_, h14_, h15_, h16_, h17_, h18_, h19_, h20_, h21_, h22_, h23_, h24_, h25_, h26_, h27_, h28_, h29_, h30_, h31_, h32_, h33_, h34_, h35_⟩
              have n0_ : Aside0 (Kd.R Kd.string 9 w150 w.heap.size (fun k_ => some k_ ≠ (v290 : Value).ownBlock ∧ some k_ ≠ (v296 : Value).ownBlock ∧ some k_ ≠ (.slice Ao53 t229.length co53 : Value).ownBlock ∧ some k_ ≠ (.slice Ao61 t273.length co61 : Value).ownBlock ∧ some k_ ≠ (.slice Ao71 t276.length co71 : Value).ownBlock ∧ some k_ ≠ (.slice Ao81 t250.length co81 : Value).ownBlock) v284 t283) := ⟨h0_⟩
              have n1_ : Aside0 (Kd.R (Kd.int .i64) 3 w150 w.heap.size (fun k_ => some k_ ≠ (v293 : Value).ownBlock ∧ some k_ ≠ (v299 : Value).ownBlock ∧ some k_ ≠ (.slice Ao55 t232.length co55 : Value).ownBlock ∧ some k_ ≠ (.slice Ao66 t274.length co66 : Value).ownBlock ∧ some k_ ≠ (.slice Ao77 t277.length co77 : Value).ownBlock ∧ some k_ ≠ (.slice Ao88 t253.length co88 : Value).ownBlock) v287 t286) := ⟨h1_⟩
              have n2_ : Aside0 (Kd.R Kd.string 9 w150 w.heap.size (fun k_ => some k_ ≠ (v284 : Value).ownBlock ∧ some k_ ≠ (v296 : Value).ownBlock ∧ some k_ ≠ (.slice Ao53 t229.length co53 : Value).ownBlock ∧ some k_ ≠ (.slice Ao61 t273.length co61 : Value).ownBlock ∧ some k_ ≠ (.slice Ao71 t276.length co71 : Value).ownBlock ∧ some k_ ≠ (.slice Ao81 t250.length co81 : Value).ownBlock) v290 t289) := ⟨h2_⟩
              have n3_ : Aside0 (Kd.R (Kd.int .i64) 3 w150 w.heap.size (fun k_ => some k_ ≠ (v287 : Value).ownBlock ∧ some k_ ≠ (v299 : Value).ownBlock ∧ some k_ ≠ (.slice Ao55 t232.length co55 : Value).ownBlock ∧ some k_ ≠ (.slice Ao66 t274.length co66 : Value).ownBlock ∧ some k_ ≠ (.slice Ao77 t277.length co77 : Value).ownBlock ∧ some k_ ≠ (.slice Ao88 t253.length co88 : Value).ownBlock) v293 t292) := ⟨h3_⟩
              have n4_ : Aside0 (Kd.R Kd.string 9 w150 w.heap.size (fun k_ => some k_ ≠ (v284 : Value).ownBlock ∧ some k_ ≠ (v290 : Value).ownBlock ∧ some k_ ≠ (.slice Ao53 t229.length co53 : Value).ownBlock ∧ some k_ ≠ (.slice Ao61 t273.length co61 : Value).ownBlock ∧ some k_ ≠ (.slice Ao71 t276.length co71 : Value).ownBlock ∧ some k_ ≠ (.slice Ao81 t250.length co81 : Value).ownBlock) v296 t295) := ⟨h4_⟩
              have n5_ : Aside0 (Kd.R (Kd.int .i64) 3 w150 w.heap.size (fun k_ => some k_ ≠ (v287 : Value).ownBlock ∧ some k_ ≠ (v293 : Value).ownBlock ∧ some k_ ≠ (.slice Ao55 t232.length co55 : Value).ownBlock ∧ some k_ ≠ (.slice Ao66 t274.length co66 : Value).ownBlock ∧ some k_ ≠ (.slice Ao77 t277.length co77 : Value).ownBlock ∧ some k_ ≠ (.slice Ao88 t253.length co88 : Value).ownBlock) v299 t298) := ⟨h5_⟩
              have n6_ : Aside0 (Kd.R Kd.string 9 w150 w.heap.size (fun k_ => some k_ ≠ (v284 : Value).ownBlock ∧ some k_ ≠ (v290 : Value).ownBlock ∧ some k_ ≠ (v296 : Value).ownBlock ∧ some k_ ≠ (.slice Ao61 t273.length co61 : Value).ownBlock ∧ some k_ ≠ (.slice Ao71 t276.length co71 : Value).ownBlock ∧ some k_ ≠ (.slice Ao81 t250.length co81 : Value).ownBlock) (.slice Ao53 t229.length co53) t229) := ⟨h6_⟩
              have n7_ : Aside0 (Kd.R (Kd.int .i64) 3 w150 w.heap.size (fun k_ => some k_ ≠ (v287 : Value).ownBlock ∧ some k_ ≠ (v293 : Value).ownBlock ∧ some k_ ≠ (v299 : Value).ownBlock ∧ some k_ ≠ (.slice Ao66 t274.length co66 : Value).ownBlock ∧ some k_ ≠ (.slice Ao77 t277.length co77 : Value).ownBlock ∧ some k_ ≠ (.slice Ao88 t253.length co88 : Value).ownBlock) (.slice Ao55 t232.length co55) t232) := ⟨h7_⟩
              have n8_ : Aside0 (Kd.R Kd.string 9 w150 w.heap.size (fun k_ => some k_ ≠ (v284 : Value).ownBlock ∧ some k_ ≠ (v290 : Value).ownBlock ∧ some k_ ≠ (v296 : Value).ownBlock ∧ some k_ ≠ (.slice Ao53 t229.length co53 : Value).ownBlock ∧ some k_ ≠ (.slice Ao71 t276.length co71 : Value).ownBlock ∧ some k_ ≠ (.slice Ao81 t250.length co81 : Value).ownBlock) (.slice Ao61 t273.length co61) t273) := ⟨h8_⟩
              have n9_ : Aside0 (Kd.R (Kd.int .i64) 3 w150 w.heap.size (fun k_ => some k_ ≠ (v287 : Value).ownBlock ∧ some k_ ≠ (v293 : Value).ownBlock ∧ some k_ ≠ (v299 : Value).ownBlock ∧ some k_ ≠ (.slice Ao55 t232.length co55 : Value).ownBlock ∧ some k_ ≠ (.slice Ao77 t277.length co77 : Value).ownBlock ∧ some k_ ≠ (.slice Ao88 t253.length co88 : Value).ownBlock) (.slice Ao66 t274.length co66) t274) := ⟨h9_⟩
              have n10_ : Aside0 (Kd.R Kd.string 9 w150 w.heap.size (fun k_ => some k_ ≠ (v284 : Value).ownBlock ∧ some k_ ≠ (v290 : Value).ownBlock ∧ some k_ ≠ (v296 : Value).ownBlock ∧ some k_ ≠ (.slice Ao53 t229.length co53 : Value).ownBlock ∧ some k_ ≠ (.slice Ao61 t273.length co61 : Value).ownBlock ∧ some k_ ≠ (.slice Ao81 t250.length co81 : Value).ownBlock) (.slice Ao71 t276.length co71) t276) := ⟨h10_⟩
              have n11_ : Aside0 (Kd.R (Kd.int .i64) 3 w150 w.heap.size (fun k_ => some k_ ≠ (v287 : Value).ownBlock ∧ some k_ ≠ (v293 : Value).ownBlock ∧ some k_ ≠ (v299 : Value).ownBlock ∧ some k_ ≠ (.slice Ao55 t232.length co55 : Value).ownBlock ∧ some k_ ≠ (.slice Ao66 t274.length co66 : Value).ownBlock ∧ some k_ ≠ (.slice Ao88 t253.length co88 : Value).ownBlock) (.slice Ao77 t277.length co77) t277) := ⟨h11_⟩
              have n12_ : Aside0 (Kd.R Kd.string 9 w150 w.heap.size (fun k_ => some k_ ≠ (v284 : Value).ownBlock ∧ some k_ ≠ (v290 : Value).ownBlock ∧ some k_ ≠ (v296 : Value).ownBlock ∧ some k_ ≠ (.slice Ao53 t229.length co53 : Value).ownBlock ∧ some k_ ≠ (.slice Ao61 t273.length co61 : Value).ownBlock ∧ some k_ ≠ (.slice Ao71 t276.length co71 : Value).ownBlock) (.slice Ao81 t250.length co81) t280) := ⟨h12_⟩
              have n13_ : Aside0 (Kd.R (Kd.int .i64) 3 w150 w.heap.size (fun k_ => some k_ ≠ (v287 : Value).ownBlock ∧ some k_ ≠ (v293 : Value).ownBlock ∧ some k_ ≠ (v299 : Value).ownBlock ∧ some k_ ≠ (.slice Ao55 t232.length co55 : Value).ownBlock ∧ some k_ ≠ (.slice Ao66 t274.length co66 : Value).ownBlock ∧ some k_ ≠ (.slice Ao77 t277.length co77 : Value).ownBlock) (.slice Ao88 t253.length co88) t281) := ⟨h13_⟩
              have n14_ : Aside0 (w150.heap[gb213]? = some (.cells #[.slice A0_0 l0_0.length c0_0, .slice A0_1 l0_1.length c0_1] 25 (0, 0))) := ⟨h14_⟩
              have n15_ : Aside0 (w150.heap[gb214]? = some (.cells #[.slice A1_0 l1_0.length c1_0, .slice A1_1 l1_1.length c1_1] 25 (0, 0))) := ⟨h15_⟩
              have n16_ : Aside0 (w150.heap[gb235]? = some (.cells #[.slice Ao53 t229.length co53, .slice Ao55 t232.length co55] 28 (0, 0))) := ⟨h16_⟩
              have n17_ : Aside0 (w150.heap[gb242]? = some (.cells #[.slice Ao61 t273.length co61, .slice Ao66 t274.length co66] 28 (0, 0))) := ⟨h17_⟩
              have n18_ : Aside0 (w150.heap[gb249]? = some (.cells #[.slice Ao71 t276.length co71, .slice Ao77 t277.length co77] 28 (0, 0))) := ⟨h18_⟩
              have n19_ : Aside0 (w150.heap[gb256]? = some (.cells #[.slice Ao81 t250.length co81, .slice Ao88 t253.length co88] 28 (0, 0))) := ⟨h19_⟩
              have n20_ : Aside0 (w150.heap[gb301]? = some (.cells #[.slice none 0 0, .slice none 0 0] 28 (0, 0))) := ⟨h20_⟩
              have n21_ : Aside0 (w.heap.size ≤ gb301) := ⟨h21_⟩
              have n22_ : Aside0 (w.heap.size ≤ gb301) := ⟨h22_⟩
              have n23_ : Aside0 (gb213 ≠ gb301) := ⟨h23_⟩
              have n24_ : Aside0 (gb301 ≠ gb213) := ⟨h24_⟩
              have n25_ : Aside0 (gb214 ≠ gb301) := ⟨h25_⟩
              have n26_ : Aside0 (gb301 ≠ gb214) := ⟨h26_⟩
              have n27_ : Aside0 (gb235 ≠ gb301) := ⟨h27_⟩
              have n28_ : Aside0 (gb301 ≠ gb235) := ⟨h28_⟩
              have n29_ : Aside0 (gb242 ≠ gb301) := ⟨h29_⟩
              have n30_ : Aside0 (gb301 ≠ gb242) := ⟨h30_⟩
              have n31_ : Aside0 (gb249 ≠ gb301) := ⟨h31_⟩
              have n32_ : Aside0 (gb301 ≠ gb249) := ⟨h32_⟩
              have n33_ : Aside0 (gb256 ≠ gb301) := ⟨h33_⟩
              have n34_ : Aside0 (gb301 ≠ gb256) := ⟨h34_⟩
              have n35_ : Aside0 (Below w.heap.size w w150) := ⟨h35_⟩
              clear HO_236000
              clear HO_236001
              clear HO_243000
              clear HO_243001
              clear HO_250000
              clear HO_250001
              clear HO_257000
              clear HO_257001
              clear BK213
              clear BK214
              clear BK235
              clear BK242
              clear BK249
              clear BK256
              clear HB
              clear h0_ h1_ h2_ h3_ h4_ h5_ h6_ h7_ h8_ h9_ h10_ h11_ h12_ h13_ h14_ h15_ h16_ h17_ h18_ h19_ h20_ h21_ h22_ h23_ h24_ h25_ h26_ h27_ h28_ h29_ h30_ h31_ h32_ h33_ h34_ h35_
              have HO285 := n0_
              have HO288 := n1_
              have HO291 := n2_
              have HO294 := n3_
              have HO297 := n4_
              have HO300 := n5_
              have HO_236000 := n6_
              have HO_236001 := n7_
              have HO_243000 := n8_
              have HO_243001 := n9_
              have HO_250000 := n10_
              have HO_250001 := n11_
              have HO_257000 := n12_
              have HO_257001 := n13_
              have BK213 := n14_
              have BK214 := n15_
              have BK235 := n16_
              have BK242 := n17_
              have BK249 := n18_
              have BK256 := n19_
              have BK301 := n20_
              have GW301 := n21_
              have GE301 := n22_
              have NB213_301 := n23_
              have NB301_213 := n24_
              have NB214_301 := n25_
              have NB301_214 := n26_
              have NB235_301 := n27_
              have NB301_235 := n28_
              have NB242_301 := n29_
              have NB301_242 := n30_
              have NB249_301 := n31_
              have NB301_249 := n32_
              have NB256_301 := n33_
              have NB301_256 := n34_
              have HB := n35_
              clear n0_ n1_ n2_ n3_ n4_ n5_ n6_ n7_ n8_ n9_ n10_ n11_ n12_ n13_ n14_ n15_ n16_ n17_ n18_ n19_ n20_ n21_ n22_ n23_ n24_ n25_ n26_ n27_ n28_ n29_ n30_ n31_ n32_ n33_ n34_ n35_
              have hHeld : w150.cell? ⟨gb213, 0, none⟩ = some (.slice A0_0 l0_0.length c0_0) ∧ w150.cell? ⟨gb213, 1, none⟩ = some (.slice A0_1 l0_1.length c0_1) ∧ w150.cell? ⟨gb214, 0, none⟩ = some (.slice A1_0 l1_0.length c1_0) ∧ w150.cell? ⟨gb214, 1, none⟩ = some (.slice A1_1 l1_1.length c1_1) := hS_
              obtain ⟨Ao151, co151, eo151⟩ := Kd.R_slice HO297.out
              (first | subst eo151 | (injection eo151 with f1_ f2_ f3_; have f4_ := f1_.symm; have f5_ := f3_.symm; clear f1_ f2_ f3_; subst f4_; subst f5_))
              obtain ⟨Ao153, co153, eo153⟩ := Kd.R_slice HO300.out
              (first | subst eo153 | (injection eo153 with f1_ f2_ f3_; have f4_ := f1_.symm; have f5_ := f3_.symm; clear f1_ f2_ f3_; subst f4_; subst f5_))
              refine norm_ (a' := ?_) ?_ ?_
              rotate_left
              ·simp only [putAll, Act.put, List.setIfInBounds_toArray, List.set_cons_zero, List.set_cons_succ]
               rfl
              refine one_ (i := 6) (N := none) #[true, true, true, true, true, true, true] rfl rfl (by kernel_rfl) (by decide) (fun K hK => ?_)
              have hs152 : w150.cell? ⟨gb301, 0, none⟩ = some (.slice none 0 0) := (blk_cell BK301.out 0).trans rfl
              have hfs152 := blk_frozen BK301.out 0
              have hns152_0 := NB213_301.out
              have hns152_1 := NB214_301.out
              have hns152_2 := NB235_301.out
              have hns152_3 := NB242_301.out
              have hns152_4 := NB249_301.out
              have hns152_5 := NB256_301.out
              have hms152_0 := NB301_213.out
              have hms152_1 := NB301_214.out
              have hms152_2 := NB301_235.out
              have hms152_3 := NB301_242.out
              have hms152_4 := NB301_249.out
              have hms152_5 := NB301_256.out
              have hs154 : w150.cell? ⟨gb301, 1, none⟩ = some (.slice none 0 0) := (blk_cell BK301.out 1).trans rfl
              have hfs154 := blk_frozen BK301.out 1
              have hns154_0 := NB213_301.out
              have hns154_1 := NB214_301.out
              have hns154_2 := NB235_301.out
              have hns154_3 := NB242_301.out
              have hns154_4 := NB249_301.out
              have hns154_5 := NB256_301.out
              have hms154_0 := NB301_213.out
              have hms154_1 := NB301_214.out
              have hms154_2 := NB301_235.out
              have hms154_3 := NB301_242.out
              have hms154_4 := NB301_249.out
              have hms154_5 := NB301_256.out
              refine skip_ (w1 := ?_) (by rfl) rfl ?_ ?_
              rotate_left
              ·go_simp
               rfl
              refine hK.out _ _ ⟨((cell_far (p := ⟨gb301, _, none⟩) NB213_301.out _).trans (((cell_far (p := ⟨gb301, _, none⟩) NB213_301.out _).trans (hHeld.1)))), ((cell_far (p := ⟨gb301, _, none⟩) NB213_301.out _).trans (((cell_far (p := ⟨gb301, _, none⟩) NB213_301.out _).trans (hHeld.2.1)))), ((cell_far (p := ⟨gb301, _, none⟩) NB214_301.out _).trans (((cell_far (p := ⟨gb301, _, none⟩) NB214_301.out _).trans (hHeld.2.2.1)))), ((cell_far (p := ⟨gb301, _, none⟩) NB214_301.out _).trans (((cell_far (p := ⟨gb301, _, none⟩) NB214_301.out _).trans (hHeld.2.2.2))))⟩ (fun hHeld => ?_)
              clear hK K
              refine done_ (by kernel_rfl) ?_
              have hnb155 := NB301_213.out
              have hnc155 := NB213_301.out
              have hnb156 := NB301_214.out
              have hnc156 := NB214_301.out
              have hnb157 := NB301_235.out
              have hnc157 := NB235_301.out
              have hnb158 := NB301_242.out
              have hnc158 := NB242_301.out
              have hnb159 := NB301_249.out
              have hnc159 := NB249_301.out
              have hnb160 := NB301_256.out
              have hnc160 := NB256_301.out
              obtain ⟨hcz161_0, hcz161_1, hfz161_0, hfz161_1⟩ := Bc2_ BK301
              have hnb162 := NB235_213.out
              have hnc162 := NB213_235.out
              have hnb163 := NB235_214.out
              have hnc163 := NB214_235.out
              have hnb164 := NB235_242.out
              have hnc164 := NB242_235.out
              have hnb165 := NB235_249.out
              have hnc165 := NB249_235.out
              obtain ⟨hcz166_0, hcz166_1, hfz166_0, hfz166_1⟩ := Bc2_ BK235
              try go_wp2_with (first | ((with_reducible refine gate_callee (f := 17) rfl ?_); refine goesL_ (some 82) rfl rfl Try.func17 (by kernel_rfl) rfl #[.agg #[.slice Ao151 t295.length co151, .slice Ao153 t298.length co153], .agg #[.slice Ao53 t229.length co53, .slice Ao55 t232.length co55]] rfl Mp_ ?_; (with_reducible refine (laws_eqEnv.calls kj34 _ _ t295 _ _ t298 _ _ t229 _ _ t232 true _ ?side1 ?side2 ?side3 ?side4 ?side5 ?side6 ?side7 ?side8 A127.out).mono ?_); (case side1 => refine (Kd.R_reads' (e := 9) (base := w.heap.size) (ok := fun k_ => (some k_ ≠ (v284 : Value).ownBlock ∧ (some k_ ≠ (v290 : Value).ownBlock ∧ (some k_ ≠ (.slice Ao53 t229.length co53 : Value).ownBlock ∧ (some k_ ≠ (.slice Ao61 t273.length co61 : Value).ownBlock ∧ (some k_ ≠ (.slice Ao71 t276.length co71 : Value).ownBlock ∧ some k_ ≠ (.slice Ao81 t250.length co81 : Value).ownBlock)))))) (n := t295.length) (c := co151) ?_).2.2; exact (by (with_reducible repeat (first | apply Kd.R_alloc | apply Kd.R_drewN | apply Kd.R_drew)); exact (Kd.R_mono (Kd.R_far (p := ⟨gb301, 1, none⟩) (Kd.R_far (p := ⟨gb301, 0, none⟩) (Kd.R_types HO297.out BK301.out (by decide)) (fun _ hk => hk.2) (.slice Ao151 t295.length co151)) (fun _ hk => hk.2) (.slice Ao153 t298.length co153)) (fun _ h_ => h_.1)))); (case side2 => exact (Kd.R_reads' HO297.out).2.1); (case side3 => refine (Kd.R_reads' (e := 3) (base := w.heap.size) (ok := fun k_ => (some k_ ≠ (v287 : Value).ownBlock ∧ (some k_ ≠ (v293 : Value).ownBlock ∧ (some k_ ≠ (.slice Ao55 t232.length co55 : Value).ownBlock ∧ (some k_ ≠ (.slice Ao66 t274.length co66 : Value).ownBlock ∧ (some k_ ≠ (.slice Ao77 t277.length co77 : Value).ownBlock ∧ some k_ ≠ (.slice Ao88 t253.length co88 : Value).ownBlock)))))) (n := t298.length) (c := co153) ?_).2.2; exact (by (with_reducible repeat (first | apply Kd.R_alloc | apply Kd.R_drewN | apply Kd.R_drew)); exact (Kd.R_mono (Kd.R_far (p := ⟨gb301, 1, none⟩) (Kd.R_far (p := ⟨gb301, 0, none⟩) (Kd.R_types HO300.out BK301.out (by decide)) (fun _ hk => hk.2) (.slice Ao151 t295.length co151)) (fun _ hk => hk.2) (.slice Ao153 t298.length co153)) (fun _ h_ => h_.1)))); (case side4 => exact (Kd.R_reads' HO300.out).2.1); (case side5 => refine (Kd.R_reads' (e := 9) (base := w.heap.size) (ok := fun k_ => (some k_ ≠ (v284 : Value).ownBlock ∧ (some k_ ≠ (v290 : Value).ownBlock ∧ (some k_ ≠ (.slice Ao151 t295.length co151 : Value).ownBlock ∧ (some k_ ≠ (.slice Ao61 t273.length co61 : Value).ownBlock ∧ (some k_ ≠ (.slice Ao71 t276.length co71 : Value).ownBlock ∧ some k_ ≠ (.slice Ao81 t250.length co81 : Value).ownBlock)))))) (n := t229.length) (c := co53) ?_).2.2; exact (by (with_reducible repeat (first | apply Kd.R_alloc | apply Kd.R_drewN | apply Kd.R_drew)); exact (Kd.R_mono (Kd.R_far (p := ⟨gb301, 1, none⟩) (Kd.R_far (p := ⟨gb301, 0, none⟩) (Kd.R_types HO_236000.out BK301.out (by decide)) (fun _ hk => hk.2) (.slice Ao151 t295.length co151)) (fun _ hk => hk.2) (.slice Ao153 t298.length co153)) (fun _ h_ => h_.1)))); (case side6 => exact (Kd.R_reads' HO_236000.out).2.1); (case side7 => refine (Kd.R_reads' (e := 3) (base := w.heap.size) (ok := fun k_ => (some k_ ≠ (v287 : Value).ownBlock ∧ (some k_ ≠ (v293 : Value).ownBlock ∧ (some k_ ≠ (.slice Ao153 t298.length co153 : Value).ownBlock ∧ (some k_ ≠ (.slice Ao66 t274.length co66 : Value).ownBlock ∧ (some k_ ≠ (.slice Ao77 t277.length co77 : Value).ownBlock ∧ some k_ ≠ (.slice Ao88 t253.length co88 : Value).ownBlock)))))) (n := t232.length) (c := co55) ?_).2.2; exact (by (with_reducible repeat (first | apply Kd.R_alloc | apply Kd.R_drewN | apply Kd.R_drew)); exact (Kd.R_mono (Kd.R_far (p := ⟨gb301, 1, none⟩) (Kd.R_far (p := ⟨gb301, 0, none⟩) (Kd.R_types HO_236001.out BK301.out (by decide)) (fun _ hk => hk.2) (.slice Ao151 t295.length co151)) (fun _ hk => hk.2) (.slice Ao153 t298.length co153)) (fun _ h_ => h_.1)))); (case side8 => exact (Kd.R_reads' HO_236001.out).2.1); rintro e w167 ⟨rfl, hb⟩; refine ⟨_, rfl, ?_⟩; replace HO_236000 := Aside0.mk (Kd.R_below (by (with_reducible repeat (first | apply Kd.R_alloc | apply Kd.R_drewN | apply Kd.R_drew)); exact (Kd.R_mono (Kd.R_far (p := ⟨gb301, 1, none⟩) (Kd.R_far (p := ⟨gb301, 0, none⟩) (Kd.R_types HO_236000.out BK301.out (by decide)) (fun _ hk => hk.2) (.slice Ao151 t295.length co151)) (fun _ hk => hk.2) (.slice Ao153 t298.length co153)) (fun _ h_ => h_.1))) hb); replace HO_236001 := Aside0.mk (Kd.R_below (by (with_reducible repeat (first | apply Kd.R_alloc | apply Kd.R_drewN | apply Kd.R_drew)); exact (Kd.R_mono (Kd.R_far (p := ⟨gb301, 1, none⟩) (Kd.R_far (p := ⟨gb301, 0, none⟩) (Kd.R_types HO_236001.out BK301.out (by decide)) (fun _ hk => hk.2) (.slice Ao151 t295.length co151)) (fun _ hk => hk.2) (.slice Ao153 t298.length co153)) (fun _ h_ => h_.1))) hb); replace HO_243000 := Aside0.mk (Kd.R_below (by (with_reducible repeat (first | apply Kd.R_alloc | apply Kd.R_drewN | apply Kd.R_drew)); exact (Kd.R_mono (Kd.R_far (p := ⟨gb301, 1, none⟩) (Kd.R_far (p := ⟨gb301, 0, none⟩) (Kd.R_types HO_243000.out BK301.out (by decide)) (fun _ hk => hk.2) (.slice Ao151 t295.length co151)) (fun _ hk => hk.2) (.slice Ao153 t298.length co153)) (fun _ h_ => h_.1))) hb); replace HO_243001 := Aside0.mk (Kd.R_below (by (with_reducible repeat (first | apply Kd.R_alloc | apply Kd.R_drewN | apply Kd.R_drew)); exact (Kd.R_mono (Kd.R_far (p := ⟨gb301, 1, none⟩) (Kd.R_far (p := ⟨gb301, 0, none⟩) (Kd.R_types HO_243001.out BK301.out (by decide)) (fun _ hk => hk.2) (.slice Ao151 t295.length co151)) (fun _ hk => hk.2) (.slice Ao153 t298.length co153)) (fun _ h_ => h_.1))) hb); replace HO_250000 := Aside0.mk (Kd.R_below (by (with_reducible repeat (first | apply Kd.R_alloc | apply Kd.R_drewN | apply Kd.R_drew)); exact (Kd.R_mono (Kd.R_far (p := ⟨gb301, 1, none⟩) (Kd.R_far (p := ⟨gb301, 0, none⟩) (Kd.R_types HO_250000.out BK301.out (by decide)) (fun _ hk => hk.2) (.slice Ao151 t295.length co151)) (fun _ hk => hk.2) (.slice Ao153 t298.length co153)) (fun _ h_ => h_.1))) hb); replace HO_250001 := Aside0.mk (Kd.R_below (by (with_reducible repeat (first | apply Kd.R_alloc | apply Kd.R_drewN | apply Kd.R_drew)); exact (Kd.R_mono (Kd.R_far (p := ⟨gb301, 1, none⟩) (Kd.R_far (p := ⟨gb301, 0, none⟩) (Kd.R_types HO_250001.out BK301.out (by decide)) (fun _ hk => hk.2) (.slice Ao151 t295.length co151)) (fun _ hk => hk.2) (.slice Ao153 t298.length co153)) (fun _ h_ => h_.1))) hb); replace HO_257000 := Aside0.mk (Kd.R_below (by (with_reducible repeat (first | apply Kd.R_alloc | apply Kd.R_drewN | apply Kd.R_drew)); exact (Kd.R_mono (Kd.R_far (p := ⟨gb301, 1, none⟩) (Kd.R_far (p := ⟨gb301, 0, none⟩) (Kd.R_types HO_257000.out BK301.out (by decide)) (fun _ hk => hk.2) (.slice Ao151 t295.length co151)) (fun _ hk => hk.2) (.slice Ao153 t298.length co153)) (fun _ h_ => h_.1))) hb); replace HO_257001 := Aside0.mk (Kd.R_below (by (with_reducible repeat (first | apply Kd.R_alloc | apply Kd.R_drewN | apply Kd.R_drew)); exact (Kd.R_mono (Kd.R_far (p := ⟨gb301, 1, none⟩) (Kd.R_far (p := ⟨gb301, 0, none⟩) (Kd.R_types HO_257001.out BK301.out (by decide)) (fun _ hk => hk.2) (.slice Ao151 t295.length co151)) (fun _ hk => hk.2) (.slice Ao153 t298.length co153)) (fun _ h_ => h_.1))) hb); replace HO285 := Aside0.mk (Kd.R_below (by (with_reducible repeat (first | apply Kd.R_alloc | apply Kd.R_drewN | apply Kd.R_drew)); exact (Kd.R_mono (Kd.R_far (p := ⟨gb301, 1, none⟩) (Kd.R_far (p := ⟨gb301, 0, none⟩) (Kd.R_types HO285.out BK301.out (by decide)) (fun _ hk => hk.2) (.slice Ao151 t295.length co151)) (fun _ hk => hk.2) (.slice Ao153 t298.length co153)) (fun _ h_ => h_.1))) hb); replace HO288 := Aside0.mk (Kd.R_below (by (with_reducible repeat (first | apply Kd.R_alloc | apply Kd.R_drewN | apply Kd.R_drew)); exact (Kd.R_mono (Kd.R_far (p := ⟨gb301, 1, none⟩) (Kd.R_far (p := ⟨gb301, 0, none⟩) (Kd.R_types HO288.out BK301.out (by decide)) (fun _ hk => hk.2) (.slice Ao151 t295.length co151)) (fun _ hk => hk.2) (.slice Ao153 t298.length co153)) (fun _ h_ => h_.1))) hb); replace HO291 := Aside0.mk (Kd.R_below (by (with_reducible repeat (first | apply Kd.R_alloc | apply Kd.R_drewN | apply Kd.R_drew)); exact (Kd.R_mono (Kd.R_far (p := ⟨gb301, 1, none⟩) (Kd.R_far (p := ⟨gb301, 0, none⟩) (Kd.R_types HO291.out BK301.out (by decide)) (fun _ hk => hk.2) (.slice Ao151 t295.length co151)) (fun _ hk => hk.2) (.slice Ao153 t298.length co153)) (fun _ h_ => h_.1))) hb); replace HO294 := Aside0.mk (Kd.R_below (by (with_reducible repeat (first | apply Kd.R_alloc | apply Kd.R_drewN | apply Kd.R_drew)); exact (Kd.R_mono (Kd.R_far (p := ⟨gb301, 1, none⟩) (Kd.R_far (p := ⟨gb301, 0, none⟩) (Kd.R_types HO294.out BK301.out (by decide)) (fun _ hk => hk.2) (.slice Ao151 t295.length co151)) (fun _ hk => hk.2) (.slice Ao153 t298.length co153)) (fun _ h_ => h_.1))) hb); replace HO297 := Aside0.mk (Kd.R_below (by (with_reducible repeat (first | apply Kd.R_alloc | apply Kd.R_drewN | apply Kd.R_drew)); exact (Kd.R_mono (Kd.R_far (p := ⟨gb301, 1, none⟩) (Kd.R_far (p := ⟨gb301, 0, none⟩) (Kd.R_types HO297.out BK301.out (by decide)) (fun _ hk => hk.2) (.slice Ao151 t295.length co151)) (fun _ hk => hk.2) (.slice Ao153 t298.length co153)) (fun _ h_ => h_.1))) hb); replace HO300 := Aside0.mk (Kd.R_below (by (with_reducible repeat (first | apply Kd.R_alloc | apply Kd.R_drewN | apply Kd.R_drew)); exact (Kd.R_mono (Kd.R_far (p := ⟨gb301, 1, none⟩) (Kd.R_far (p := ⟨gb301, 0, none⟩) (Kd.R_types HO300.out BK301.out (by decide)) (fun _ hk => hk.2) (.slice Ao151 t295.length co151)) (fun _ hk => hk.2) (.slice Ao153 t298.length co153)) (fun _ h_ => h_.1))) hb); replace BK213 := Aside0.mk (blk_below (g := gb213) (o := .cells #[.slice A0_0 l0_0.length c0_0, .slice A0_1 l0_1.length c0_1] 25 (0, 0)) (by (with_reducible repeat (first | refine blk_drewN ?_ _ | refine blk_drew ?_ | refine blk_alloc ?_ _)); refine blk_far ?_ NB213_301.out _; (with_reducible repeat (first | refine blk_drewN ?_ _ | refine blk_drew ?_ | refine blk_alloc ?_ _)); refine blk_far ?_ NB213_301.out _; (with_reducible repeat (first | refine blk_drewN ?_ _ | refine blk_drew ?_ | refine blk_alloc ?_ _)); exact BK213.out) hb); replace BK214 := Aside0.mk (blk_below (g := gb214) (o := .cells #[.slice A1_0 l1_0.length c1_0, .slice A1_1 l1_1.length c1_1] 25 (0, 0)) (by (with_reducible repeat (first | refine blk_drewN ?_ _ | refine blk_drew ?_ | refine blk_alloc ?_ _)); refine blk_far ?_ NB214_301.out _; (with_reducible repeat (first | refine blk_drewN ?_ _ | refine blk_drew ?_ | refine blk_alloc ?_ _)); refine blk_far ?_ NB214_301.out _; (with_reducible repeat (first | refine blk_drewN ?_ _ | refine blk_drew ?_ | refine blk_alloc ?_ _)); exact BK214.out) hb); replace BK235 := Aside0.mk (blk_below (g := gb235) (o := .cells #[.slice Ao53 t229.length co53, .slice Ao55 t232.length co55] 28 (0, 0)) (by (with_reducible repeat (first | refine blk_drewN ?_ _ | refine blk_drew ?_ | refine blk_alloc ?_ _)); refine blk_far ?_ NB235_301.out _; (with_reducible repeat (first | refine blk_drewN ?_ _ | refine blk_drew ?_ | refine blk_alloc ?_ _)); refine blk_far ?_ NB235_301.out _; (with_reducible repeat (first | refine blk_drewN ?_ _ | refine blk_drew ?_ | refine blk_alloc ?_ _)); exact BK235.out) hb); replace BK242 := Aside0.mk (blk_below (g := gb242) (o := .cells #[.slice Ao61 t273.length co61, .slice Ao66 t274.length co66] 28 (0, 0)) (by (with_reducible repeat (first | refine blk_drewN ?_ _ | refine blk_drew ?_ | refine blk_alloc ?_ _)); refine blk_far ?_ NB242_301.out _; (with_reducible repeat (first | refine blk_drewN ?_ _ | refine blk_drew ?_ | refine blk_alloc ?_ _)); refine blk_far ?_ NB242_301.out _; (with_reducible repeat (first | refine blk_drewN ?_ _ | refine blk_drew ?_ | refine blk_alloc ?_ _)); exact BK242.out) hb); replace BK249 := Aside0.mk (blk_below (g := gb249) (o := .cells #[.slice Ao71 t276.length co71, .slice Ao77 t277.length co77] 28 (0, 0)) (by (with_reducible repeat (first | refine blk_drewN ?_ _ | refine blk_drew ?_ | refine blk_alloc ?_ _)); refine blk_far ?_ NB249_301.out _; (with_reducible repeat (first | refine blk_drewN ?_ _ | refine blk_drew ?_ | refine blk_alloc ?_ _)); refine blk_far ?_ NB249_301.out _; (with_reducible repeat (first | refine blk_drewN ?_ _ | refine blk_drew ?_ | refine blk_alloc ?_ _)); exact BK249.out) hb); replace BK256 := Aside0.mk (blk_below (g := gb256) (o := .cells #[.slice Ao81 t250.length co81, .slice Ao88 t253.length co88] 28 (0, 0)) (by (with_reducible repeat (first | refine blk_drewN ?_ _ | refine blk_drew ?_ | refine blk_alloc ?_ _)); refine blk_far ?_ NB256_301.out _; (with_reducible repeat (first | refine blk_drewN ?_ _ | refine blk_drew ?_ | refine blk_alloc ?_ _)); refine blk_far ?_ NB256_301.out _; (with_reducible repeat (first | refine blk_drewN ?_ _ | refine blk_drew ?_ | refine blk_alloc ?_ _)); exact BK256.out) hb); replace BK301 := Aside0.mk (blk_below (g := gb301) (o := .cells #[.slice Ao151 t295.length co151, .slice Ao153 t298.length co153] 28 (0, 0)) (by (with_reducible repeat (first | refine blk_drewN ?_ _ | refine blk_drew ?_ | refine blk_alloc ?_ _)); refine blk_put (cs := #[.slice Ao151 t295.length co151, .slice none 0 0]) ?_ 1 _ rfl; (with_reducible repeat (first | refine blk_drewN ?_ _ | refine blk_drew ?_ | refine blk_alloc ?_ _)); refine blk_put (cs := #[.slice none 0 0, .slice none 0 0]) ?_ 0 _ rfl; (with_reducible repeat (first | refine blk_drewN ?_ _ | refine blk_drew ?_ | refine blk_alloc ?_ _)); exact BK301.out) hb); replace HB := Hs_ HB hb; (try clear hb); (try clear hb2); (try clear hk); (try clear hi); obtain ⟨hcz168_0, hcz168_1, hfz168_0, hfz168_1⟩ := Bc2_ BK256) | ((with_reducible refine gate_callee (f := 21) rfl ?_); refine goesL_ (some 86) rfl rfl Try.func21 (by kernel_rfl) rfl #[.agg #[.slice Ao81 t280.length co81, .slice Ao88 t281.length co88], .int .i64 1] rfl (by (try simp only [List.map_toArray, List.map_cons, List.map_nil]); first | done | (rw [show t280.length = t250.length from (Kd.R_reads' HO_257000.out).1.symm, show t281.length = t253.length from (Kd.R_reads' HO_257001.out).1.symm] <;> rfl) | rfl | (simp only [List.length_drop, List.length_take]; rfl)) ?_; (with_reducible refine (laws_heldEnv.calls kj34 _ _ t280 _ _ t281 1 t303 _ ?side1 ?side2 ?side3 ?side4 A129.out).mono ?_); (case side1 => exact Cq_ (Kd.R_reads' HO_257000.out).2.2); (case side2 => rw [show t280.length = t250.length from (Kd.R_reads' HO_257000.out).1.symm]; exact (Kd.R_reads' HO_257000.out).2.1); (case side3 => exact Cq_ (Kd.R_reads' HO_257001.out).2.2); (case side4 => rw [show t281.length = t253.length from (Kd.R_reads' HO_257001.out).1.symm]; exact (Kd.R_reads' HO_257001.out).2.1); rintro e w169 ⟨rfl, hb⟩; refine ⟨_, rfl, ?_⟩; replace HO_236000 := Rb_ HO_236000 hb; replace HO_236001 := Rb_ HO_236001 hb; replace HO_243000 := Rb_ HO_243000 hb; replace HO_243001 := Rb_ HO_243001 hb; replace HO_250000 := Rb_ HO_250000 hb; replace HO_250001 := Rb_ HO_250001 hb; replace HO_257000 := Rb_ HO_257000 hb; replace HO_257001 := Rb_ HO_257001 hb; replace HO285 := Rb_ HO285 hb; replace HO288 := Rb_ HO288 hb; replace HO291 := Rb_ HO291 hb; replace HO294 := Rb_ HO294 hb; replace HO297 := Rb_ HO297 hb; replace HO300 := Rb_ HO300 hb; replace BK213 := Bb_ BK213 hb; replace BK214 := Bb_ BK214 hb; replace BK235 := Bb_ BK235 hb; replace BK242 := Bb_ BK242 hb; replace BK249 := Bb_ BK249 hb; replace BK256 := Bb_ BK256 hb; replace BK301 := Bb_ BK301 hb; replace HB := Hs_ HB hb; (try clear hb); (try clear hb2); (try clear hk); (try clear hi)))
              go_ret
              exact ⟨Re_, Hf_ HB⟩
             ·rw [if_neg c131] at H
              have c131b0 : (t303 == t279) = false := beq_eq_false_iff_ne.mpr c131
              have c131b1 : (t303 != t279) = true := bne_iff_ne.mpr c131
              exact absurd (Option.some.inj H) (by rw [hlaw_.out]; decide)
           ·replace c128 := Bool.eq_false_iff.mpr c128
            subst c128
            have H1 : (some false) = some r := by rw [if_neg (show ¬ (false = true) by decide)] at H; exact H
            clear H
            have H := H1
            clear H1
            exact absurd (Option.some.inj H) (by rw [hlaw_.out]; decide)
          ·rw [if_neg c123] at H
           have c123b0 : (t282 == t279) = false := beq_eq_false_iff_ne.mpr c123
           have c123b1 : (t282 != t279) = true := bne_iff_ne.mpr c123
           exact absurd (Option.some.inj H) (by rw [hlaw_.out]; decide)
     ·replace c32 := Bool.eq_false_iff.mpr c32
      subst c32
      have H1 : (some false) = some r := by rw [if_neg (show ¬ (false = true) by decide)] at H; exact H
      clear H
      have H := H1
      clear H1
      exact absurd (Option.some.inj H) (by rw [hlaw_.out]; decide)
    ·replace c29 := Bool.eq_false_iff.mpr c29
     subst c29
     have H1 : (some false) = some r := by rw [if_neg (show ¬ (false = true) by decide)] at H; exact H
     clear H
     have H := H1
     clear H1
     exact absurd (Option.some.inj H) (by rw [hlaw_.out]; decide)
   ·replace c26 := Bool.eq_false_iff.mpr c26
    subst c26
    have H1 : (some false) = some r := by rw [if_neg (show ¬ (false = true) by decide)] at H; exact H
    clear H
    have H := H1
    clear H1
    exact absurd (Option.some.inj H) (by rw [hlaw_.out]; decide)

end Go.Proofs.Ytegeahiflkjhmaa.PFnExactTogether
