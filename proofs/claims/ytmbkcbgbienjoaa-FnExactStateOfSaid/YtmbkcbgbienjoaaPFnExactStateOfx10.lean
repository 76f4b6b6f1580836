/- The machine side of the law FnExactStateOf: for each function that it reaches, a Lean function and its contract. Written by a program of this session's over the kit's print. No condition. -/
import Derived.Test.YtmbkcbgbienjoaaCmp
import Derived.Test.YtmbkcbgbienjoaaPFnExactStateOfx0
import Derived.Test.YtmbkcbgbienjoaaPFnExactStateOfx2
import Derived.Test.YtmbkcbgbienjoaaPFnExactStateOfx3
import Derived.Test.YtmbkcbgbienjoaaPFnExactStateOfx4
import Derived.Test.YtmbkcbgbienjoaaPFnExactStateOfx6
import Derived.Test.YtmbkcbgbienjoaaPFnExactStateOfx9
namespace Go.Proofs.Ytmbkcbgbienjoaa.PFnExactStateOf
open Go.RowKit Go.Proofs.YtmbkcbgbienjoaaW.PrintWords Go.Proofs.YtmbkcbgbienjoaaW.PrintLast Go.Proofs.YtmbkcbgbienjoaaW.PrintMore Go.Proofs.Ytmbkcbgbienjoaa.Cmp
attribute [local go_sem] max2_int min2_int max_two min_two max_three min_three max_four min_four   -- for this text's walks alone
set_option linter.unusedVariables false
set_option linter.unusedSimpArgs false

/-! ### laws_FnExactStateOf: function 3 -/
def laws_FnExactStateOf.f (k : Nat) (l0_0 : List (S113)) (l0_1 : List (S117)) (l0_2 : List (S119)) (l1_0 : List Int) (l1_1 : List ByteArray) (l1_2 : List Int) (a1_3 : Int) : Option (Bool) := (laws_szProgram.f k l0_0 l0_1 l0_2 1048576).bind fun t326 => (if t326 < 0 then (some true) else ((laws_szThread.f k l1_0 l1_1 l1_2 a1_3 t326).bind fun t327 => (if t327 < 0 then (some true) else ((laws_toProgram.f k l0_0 l0_1 l0_2).bind fun bt328 => ((laws_toThread.f k l1_0 l1_1 l1_2 a1_3).bind fun bt337 => ((spec_StateOf.f bt328.1 bt328.2.1 bt328.2.2 bt337.1 bt337.2.1 bt337.2.2.1 bt337.2.2.2).bind fun t347 => ((laws_toProgram.f k l0_0 l0_1 l0_2).bind fun bt348 => ((laws_toThread.f k l1_0 l1_1 l1_2 a1_3).bind fun bt358 => ((impl_StateOf.f bt348.1 bt348.2.1 bt348.2.2 bt358.1 bt358.2.1 bt358.2.2.1 bt358.2.2.2).bind fun t369 => (if t369 = t347 then ((laws_toProgram.f k l0_0 l0_1 l0_2).bind fun bt370 => ((laws_eqProgram.f k bt348.1 bt348.2.1 bt348.2.2 bt370.1 bt370.2.1 bt370.2.2).bind fun t379 => (if t379 = true then ((laws_toThread.f k l1_0 l1_1 l1_2 a1_3).bind fun bt380 => ((laws_eqThread.f k bt358.1 bt358.2.1 bt358.2.2.1 bt358.2.2.2 bt380.1 bt380.2.1 bt380.2.2.1 bt380.2.2.2).bind fun t390 => (if t390 = true then (some true) else (some false)))) else (some false)))) else (some false)))))))))))
theorem laws_FnExactStateOf.mono : ∀ a0 a1 a2 a3 a4 a5 a6 k, LeO (laws_FnExactStateOf.f k a0 a1 a2 a3 a4 a5 a6) (laws_FnExactStateOf.f (k + 1) a0 a1 a2 a3 a4 a5 a6) := by
  intro a0 a1 a2 a3 a4 a5 a6 k
  unfold laws_FnExactStateOf.f
  repeat' first
      | (with_reducible exact laws_eqProgram.mono _ _ _ _ _ _ _)
      | (with_reducible exact laws_eqThread.mono _ _ _ _ _ _ _ _ _)
      | (with_reducible exact laws_szProgram.mono _ _ _ _ _)
      | (with_reducible exact laws_szThread.mono _ _ _ _ _ _)
      | (with_reducible exact laws_toProgram.mono _ _ _ _)
      | (with_reducible exact laws_toThread.mono _ _ _ _ _)
      | (with_reducible exact LeO.refl _)
      | (with_reducible exact LeO.none _)
      | (with_reducible refine LeO.ite ?_ ?_)
      | (with_reducible refine LeO.bind ?_ (fun _ => ?_))
      | exact laws_eqProgram.mono _ _ _ _ _ _ _
      | exact laws_eqThread.mono _ _ _ _ _ _ _ _ _
      | exact laws_szProgram.mono _ _ _ _ _
      | exact laws_szThread.mono _ _ _ _ _ _
      | exact laws_toProgram.mono _ _ _ _
      | exact laws_toThread.mono _ _ _ _ _
      | exact LeO.none _
      | refine LeO.ite ?_ ?_
      | refine LeO.bind ?_ (fun _ => ?_)
set_option maxHeartbeats 8000000 in
set_option maxRecDepth 100000 in
theorem laws_FnExactStateOf.calls (k : Nat) (A0_0 : Option Addr) (c0_0 : Nat) (l0_0 : List (S113)) (A0_1 : Option Addr) (c0_1 : Nat) (l0_1 : List (S117)) (A0_2 : Option Addr) (c0_2 : Nat) (l0_2 : List (S119)) (A1_0 : Option Addr) (c1_0 : Nat) (l1_0 : List Int) (A1_1 : Option Addr) (c1_1 : Nat) (l1_1 : List ByteArray) (A1_2 : Option Addr) (c1_2 : Nat) (l1_2 : List Int) (a1_3 : Int) (r : Bool) (w : World) (hr0_0 : Kd.C k113 w A0_0 l0_0.length l0_0) (hc0_0 : l0_0.length ≤ c0_0) (hr0_1 : Kd.C k117 w A0_1 l0_1.length l0_1) (hc0_1 : l0_1.length ≤ c0_1) (hr0_2 : Kd.C k119 w A0_2 l0_2.length l0_2) (hc0_2 : l0_2.length ≤ c0_2) (hr1_0 : Kd.C (Kd.int .i64) w A1_0 l1_0.length l1_0) (hc1_0 : l1_0.length ≤ c1_0) (hr1_1 : Kd.C Kd.string w A1_1 l1_1.length l1_1) (hc1_1 : l1_1.length ≤ c1_1) (hr1_2 : Kd.C (Kd.int .i64) w A1_2 l1_2.length l1_2) (hc1_2 : l1_2.length ≤ c1_2) (hlaw_ : Aside0 (r = true)) (h : laws_FnExactStateOf.f k l0_0 l0_1 l0_2 l1_0 l1_1 l1_2 a1_3 = some r) :
    Calls Try.prog 3 #[.agg #[.slice A0_0 l0_0.length c0_0, .slice A0_1 l0_1.length c0_1, .slice A0_2 l0_2.length c0_2], .agg #[.slice A1_0 l1_0.length c1_0, .slice A1_1 l1_1.length c1_1, .slice A1_2 l1_2.length c1_2, .int .i64 a1_3]] w fun e w' => e = .returned (.bool r) ∧ Below w.heap.size w w' := by
  have hu26 := Try.underlying26
  have hu32 := Try.underlying32
  have hu40 := Try.underlying40
  have hu44 := Try.underlying44
  have HR0_0 := Aside0.mk hr0_0
  have HC0_0 := Aside0.mk hc0_0
  clear hr0_0 hc0_0
  have HR0_1 := Aside0.mk hr0_1
  have HC0_1 := Aside0.mk hc0_1
  clear hr0_1 hc0_1
  have HR0_2 := Aside0.mk hr0_2
  have HC0_2 := Aside0.mk hc0_2
  clear hr0_2 hc0_2
  have HR1_0 := Aside0.mk hr1_0
  have HC1_0 := Aside0.mk hc1_0
  clear hr1_0 hc1_0
  have HR1_1 := Aside0.mk hr1_1
  have HC1_1 := Aside0.mk hc1_1
  clear hr1_1 hc1_1
  have HR1_2 := Aside0.mk hr1_2
  have HC1_2 := Aside0.mk hc1_2
  clear hr1_2 hc1_2
  have HB := Aside0.mk (Below.refl w.heap.size w)
  have H : ((laws_szProgram.f k l0_0 l0_1 l0_2 1048576).bind fun t326 => (if t326 < 0 then (some true) else ((laws_szThread.f k l1_0 l1_1 l1_2 a1_3 t326).bind fun t327 => (if t327 < 0 then (some true) else ((laws_toProgram.f k l0_0 l0_1 l0_2).bind fun bt328 => ((laws_toThread.f k l1_0 l1_1 l1_2 a1_3).bind fun bt337 => ((spec_StateOf.f bt328.1 bt328.2.1 bt328.2.2 bt337.1 bt337.2.1 bt337.2.2.1 bt337.2.2.2).bind fun t347 => ((laws_toProgram.f k l0_0 l0_1 l0_2).bind fun bt348 => ((laws_toThread.f k l1_0 l1_1 l1_2 a1_3).bind fun bt358 => ((impl_StateOf.f bt348.1 bt348.2.1 bt348.2.2 bt358.1 bt358.2.1 bt358.2.2.1 bt358.2.2.2).bind fun t369 => (if t369 = t347 then ((laws_toProgram.f k l0_0 l0_1 l0_2).bind fun bt370 => ((laws_eqProgram.f k bt348.1 bt348.2.1 bt348.2.2 bt370.1 bt370.2.1 bt370.2.2).bind fun t379 => (if t379 = true then ((laws_toThread.f k l1_0 l1_1 l1_2 a1_3).bind fun bt380 => ((laws_eqThread.f k bt358.1 bt358.2.1 bt358.2.2.1 bt358.2.2.2 bt380.1 bt380.2.1 bt380.2.2.1 bt380.2.2.2).bind fun t390 => (if t390 = true then (some true) else (some false)))) else (some false)))) else (some false)))))))))))) = some r := h
  clear h
  replace H := Option.bind_eq_some_iff.mp H
  obtain ⟨t326, A30, H⟩ := H
  replace H : (if t326 < 0 then (some true) else ((laws_szThread.f k l1_0 l1_1 l1_2 a1_3 t326).bind fun t327 => (if t327 < 0 then (some true) else ((laws_toProgram.f k l0_0 l0_1 l0_2).bind fun bt328 => ((laws_toThread.f k l1_0 l1_1 l1_2 a1_3).bind fun bt337 => ((spec_StateOf.f bt328.1 bt328.2.1 bt328.2.2 bt337.1 bt337.2.1 bt337.2.2.1 bt337.2.2.2).bind fun t347 => ((laws_toProgram.f k l0_0 l0_1 l0_2).bind fun bt348 => ((laws_toThread.f k l1_0 l1_1 l1_2 a1_3).bind fun bt358 => ((impl_StateOf.f bt348.1 bt348.2.1 bt348.2.2 bt358.1 bt358.2.1 bt358.2.2.1 bt358.2.2.2).bind fun t369 => (if t369 = t347 then ((laws_toProgram.f k l0_0 l0_1 l0_2).bind fun bt370 => ((laws_eqProgram.f k bt348.1 bt348.2.1 bt348.2.2 bt370.1 bt370.2.1 bt370.2.2).bind fun t379 => (if t379 = true then ((laws_toThread.f k l1_0 l1_1 l1_2 a1_3).bind fun bt380 => ((laws_eqThread.f k bt358.1 bt358.2.1 bt358.2.2.1 bt358.2.2.2 bt380.1 bt380.2.1 bt380.2.2.1 bt380.2.2.2).bind fun t390 => (if t390 = true then (some true) else (some false)))) else (some false)))) else (some false))))))))))) = some r := H
  have A3 := Aside0.mk A30
  clear A30
  by_cases c4 : t326 < 0
  · rw [if_pos c4] at H
    have c4b0 : decide (t326 < 0) = true := decide_eq_true c4
    clear c4
    obtain rfl := Option.some.inj H
    go_enter Try.func3, Try.ntmps3
    go_wp2_with (first | ((with_reducible refine gate_dst (N := 2) rfl ?_); refine box_event ?hg (N := 2) ?hd (cs := #[.slice A0_0 l0_0.length c0_0, .slice A0_1 l0_1.length c0_1, .slice A0_2 l0_2.length c0_2]) (t := 26) ?hr ?_; (case hd => rfl); (case hg => rfl); (case hr => first | (go_simp; done) | (go_simp; rfl)); intro gb324 hg w5 hbox hb; have BK324 := Aside0.mk (hbox); have GW324 := Hg_ HB hg; have GE324 := GW324; replace HB := Hs_ HB hb; clear hb hbox hg) | ((with_reducible refine gate_dst (N := 3) rfl ?_); refine box_event ?hg (N := 3) ?hd (cs := #[.slice A1_0 l1_0.length c1_0, .slice A1_1 l1_1.length c1_1, .slice A1_2 l1_2.length c1_2, .int .i64 a1_3]) (t := 32) ?hr ?_; (case hd => rfl); (case hg => rfl); (case hr => first | (go_simp; done) | (go_simp; rfl)); intro gb325 hg w6 hbox hb; have BK325 := Aside0.mk (hbox); have GW325 := Hg_ HB hg; have GE325 := GW325; have NB324_325 := Bl_ BK324 hg; have NB325_324 := Bm_ NB324_325; replace BK324 := Bb_ BK324 hb; replace HB := Hs_ HB hb; clear hb hbox hg; have hnb7 := NB324_325.out; have hnc7 := NB325_324.out; obtain ⟨hcz8_0, hcz8_1, hcz8_2, hfz8_0, hfz8_1, hfz8_2⟩ := Bc3_ BK324) | ((with_reducible refine gate_callee (f := 13) rfl ?_); refine goesL_ (some 12) rfl rfl Try.func13 (by kernel_rfl) rfl #[.agg #[.slice A0_0 l0_0.length c0_0, .slice A0_1 l0_1.length c0_1, .slice A0_2 l0_2.length c0_2], .int .i64 1048576] rfl Mp_ ?_; (with_reducible refine (laws_szProgram.calls k _ _ l0_0 _ _ l0_1 _ _ l0_2 1048576 t326 _ ?side1 ?side2 ?side3 ?side4 ?side5 ?side6 A3.out).mono ?_); (case side1 => exact Sc_ HR0_0 HB); (case side2 => exact HC0_0.out); (case side3 => exact Sc_ HR0_1 HB); (case side4 => exact HC0_1.out); (case side5 => exact Sc_ HR0_2 HB); (case side6 => exact HC0_2.out); rintro e w9 ⟨rfl, hb⟩; refine ⟨_, rfl, ?_⟩; replace BK324 := Bb_ BK324 hb; replace BK325 := Bb_ BK325 hb; replace HB := Hs_ HB hb; (try clear hb); (try clear hb2); (try clear hk); (try clear hi)))
    go_ret
    exact ⟨Re_, Hf_ HB⟩
  · rw [if_neg c4] at H
    have c4b0 : decide (t326 < 0) = false := decide_eq_false c4
    clear c4
    replace H := Option.bind_eq_some_iff.mp H
    obtain ⟨t327, A100, H⟩ := H
    replace H : (if t327 < 0 then (some true) else ((laws_toProgram.f k l0_0 l0_1 l0_2).bind fun bt328 => ((laws_toThread.f k l1_0 l1_1 l1_2 a1_3).bind fun bt337 => ((spec_StateOf.f bt328.1 bt328.2.1 bt328.2.2 bt337.1 bt337.2.1 bt337.2.2.1 bt337.2.2.2).bind fun t347 => ((laws_toProgram.f k l0_0 l0_1 l0_2).bind fun bt348 => ((laws_toThread.f k l1_0 l1_1 l1_2 a1_3).bind fun bt358 => ((impl_StateOf.f bt348.1 bt348.2.1 bt348.2.2 bt358.1 bt358.2.1 bt358.2.2.1 bt358.2.2.2).bind fun t369 => (if t369 = t347 then ((laws_toProgram.f k l0_0 l0_1 l0_2).bind fun bt370 => ((laws_eqProgram.f k bt348.1 bt348.2.1 bt348.2.2 bt370.1 bt370.2.1 bt370.2.2).bind fun t379 => (if t379 = true then ((laws_toThread.f k l1_0 l1_1 l1_2 a1_3).bind fun bt380 => ((laws_eqThread.f k bt358.1 bt358.2.1 bt358.2.2.1 bt358.2.2.2 bt380.1 bt380.2.1 bt380.2.2.1 bt380.2.2.2).bind fun t390 => (if t390 = true then (some true) else (some false)))) else (some false)))) else (some false))))))))) = some r := H
    have A10 := Aside0.mk A100
    clear A100
    by_cases c11 : t327 < 0
    · rw [if_pos c11] at H
      have c11b0 : decide (t327 < 0) = true := decide_eq_true c11
      clear c11
      obtain rfl := Option.some.inj H
      go_enter Try.func3, Try.ntmps3
      go_wp2_with (first | ((with_reducible refine gate_dst (N := 2) rfl ?_); refine box_event ?hg (N := 2) ?hd (cs := #[.slice A0_0 l0_0.length c0_0, .slice A0_1 l0_1.length c0_1, .slice A0_2 l0_2.length c0_2]) (t := 26) ?hr ?_; (case hd => rfl); (case hg => rfl); (case hr => first | (go_simp; done) | (go_simp; rfl)); intro gb324 hg w12 hbox hb; have BK324 := Aside0.mk (hbox); have GW324 := Hg_ HB hg; have GE324 := GW324; replace HB := Hs_ HB hb; clear hb hbox hg) | ((with_reducible refine gate_dst (N := 3) rfl ?_); refine box_event ?hg (N := 3) ?hd (cs := #[.slice A1_0 l1_0.length c1_0, .slice A1_1 l1_1.length c1_1, .slice A1_2 l1_2.length c1_2, .int .i64 a1_3]) (t := 32) ?hr ?_; (case hd => rfl); (case hg => rfl); (case hr => first | (go_simp; done) | (go_simp; rfl)); intro gb325 hg w13 hbox hb; have BK325 := Aside0.mk (hbox); have GW325 := Hg_ HB hg; have GE325 := GW325; have NB324_325 := Bl_ BK324 hg; have NB325_324 := Bm_ NB324_325; replace BK324 := Bb_ BK324 hb; replace HB := Hs_ HB hb; clear hb hbox hg; have hnb14 := NB324_325.out; have hnc14 := NB325_324.out; obtain ⟨hcz15_0, hcz15_1, hcz15_2, hfz15_0, hfz15_1, hfz15_2⟩ := Bc3_ BK324) | ((with_reducible refine gate_callee (f := 13) rfl ?_); refine goesL_ (some 12) rfl rfl Try.func13 (by kernel_rfl) rfl #[.agg #[.slice A0_0 l0_0.length c0_0, .slice A0_1 l0_1.length c0_1, .slice A0_2 l0_2.length c0_2], .int .i64 1048576] rfl Mp_ ?_; (with_reducible refine (laws_szProgram.calls k _ _ l0_0 _ _ l0_1 _ _ l0_2 1048576 t326 _ ?side1 ?side2 ?side3 ?side4 ?side5 ?side6 A3.out).mono ?_); (case side1 => exact Sc_ HR0_0 HB); (case side2 => exact HC0_0.out); (case side3 => exact Sc_ HR0_1 HB); (case side4 => exact HC0_1.out); (case side5 => exact Sc_ HR0_2 HB); (case side6 => exact HC0_2.out); rintro e w16 ⟨rfl, hb⟩; refine ⟨_, rfl, ?_⟩; replace BK324 := Bb_ BK324 hb; replace BK325 := Bb_ BK325 hb; replace HB := Hs_ HB hb; (try clear hb); (try clear hb2); (try clear hk); (try clear hi); obtain ⟨hcz17_0, hcz17_1, hcz17_2, hcz17_3, hfz17_0, hfz17_1, hfz17_2, hfz17_3⟩ := Bc4_ BK325) | ((with_reducible refine gate_callee (f := 14) rfl ?_); refine goesL_ (some 17) rfl rfl Try.func14 (by kernel_rfl) rfl #[.agg #[.slice A1_0 l1_0.length c1_0, .slice A1_1 l1_1.length c1_1, .slice A1_2 l1_2.length c1_2, .int .i64 a1_3], .int .i64 t326] rfl Mp_ ?_; (with_reducible refine (laws_szThread.calls k _ _ l1_0 _ _ l1_1 _ _ l1_2 a1_3 t326 t327 _ ?side1 ?side2 ?side3 ?side4 ?side5 ?side6 A10.out).mono ?_); (case side1 => exact Sc_ HR1_0 HB); (case side2 => exact HC1_0.out); (case side3 => exact Sc_ HR1_1 HB); (case side4 => exact HC1_1.out); (case side5 => exact Sc_ HR1_2 HB); (case side6 => exact HC1_2.out); rintro e w18 ⟨rfl, hb⟩; refine ⟨_, rfl, ?_⟩; replace BK324 := Bb_ BK324 hb; replace BK325 := Bb_ BK325 hb; replace HB := Hs_ HB hb; (try clear hb); (try clear hb2); (try clear hk); (try clear hi)))
      go_ret
      exact ⟨Re_, Hf_ HB⟩
    · rw [if_neg c11] at H
      have c11b0 : decide (t327 < 0) = false := decide_eq_false c11
      clear c11
      replace H := Option.bind_eq_some_iff.mp H
      obtain ⟨⟨t328, t331, t334⟩, A190, H⟩ := H
      replace H : ((laws_toThread.f k l1_0 l1_1 l1_2 a1_3).bind fun bt337 => ((spec_StateOf.f t328 t331 t334 bt337.1 bt337.2.1 bt337.2.2.1 bt337.2.2.2).bind fun t347 => ((laws_toProgram.f k l0_0 l0_1 l0_2).bind fun bt348 => ((laws_toThread.f k l1_0 l1_1 l1_2 a1_3).bind fun bt358 => ((impl_StateOf.f bt348.1 bt348.2.1 bt348.2.2 bt358.1 bt358.2.1 bt358.2.2.1 bt358.2.2.2).bind fun t369 => (if t369 = t347 then ((laws_toProgram.f k l0_0 l0_1 l0_2).bind fun bt370 => ((laws_eqProgram.f k bt348.1 bt348.2.1 bt348.2.2 bt370.1 bt370.2.1 bt370.2.2).bind fun t379 => (if t379 = true then ((laws_toThread.f k l1_0 l1_1 l1_2 a1_3).bind fun bt380 => ((laws_eqThread.f k bt358.1 bt358.2.1 bt358.2.2.1 bt358.2.2.2 bt380.1 bt380.2.1 bt380.2.2.1 bt380.2.2.2).bind fun t390 => (if t390 = true then (some true) else (some false)))) else (some false)))) else (some false))))))) = some r := H
      have A19 := Aside0.mk A190
      clear A190
      replace H := Option.bind_eq_some_iff.mp H
      obtain ⟨⟨t337, t340, t343, t346⟩, A200, H⟩ := H
      replace H : ((spec_StateOf.f t328 t331 t334 t337 t340 t343 t346).bind fun t347 => ((laws_toProgram.f k l0_0 l0_1 l0_2).bind fun bt348 => ((laws_toThread.f k l1_0 l1_1 l1_2 a1_3).bind fun bt358 => ((impl_StateOf.f bt348.1 bt348.2.1 bt348.2.2 bt358.1 bt358.2.1 bt358.2.2.1 bt358.2.2.2).bind fun t369 => (if t369 = t347 then ((laws_toProgram.f k l0_0 l0_1 l0_2).bind fun bt370 => ((laws_eqProgram.f k bt348.1 bt348.2.1 bt348.2.2 bt370.1 bt370.2.1 bt370.2.2).bind fun t379 => (if t379 = true then ((laws_toThread.f k l1_0 l1_1 l1_2 a1_3).bind fun bt380 => ((laws_eqThread.f k bt358.1 bt358.2.1 bt358.2.2.1 bt358.2.2.2 bt380.1 bt380.2.1 bt380.2.2.1 bt380.2.2.2).bind fun t390 => (if t390 = true then (some true) else (some false)))) else (some false)))) else (some false)))))) = some r := H
      have A20 := Aside0.mk A200
      clear A200
      replace H := Option.bind_eq_some_iff.mp H
      obtain ⟨t347, A210, H⟩ := H
      replace H : ((laws_toProgram.f k l0_0 l0_1 l0_2).bind fun bt348 => ((laws_toThread.f k l1_0 l1_1 l1_2 a1_3).bind fun bt358 => ((impl_StateOf.f bt348.1 bt348.2.1 bt348.2.2 bt358.1 bt358.2.1 bt358.2.2.1 bt358.2.2.2).bind fun t369 => (if t369 = t347 then ((laws_toProgram.f k l0_0 l0_1 l0_2).bind fun bt370 => ((laws_eqProgram.f k bt348.1 bt348.2.1 bt348.2.2 bt370.1 bt370.2.1 bt370.2.2).bind fun t379 => (if t379 = true then ((laws_toThread.f k l1_0 l1_1 l1_2 a1_3).bind fun bt380 => ((laws_eqThread.f k bt358.1 bt358.2.1 bt358.2.2.1 bt358.2.2.2 bt380.1 bt380.2.1 bt380.2.2.1 bt380.2.2.2).bind fun t390 => (if t390 = true then (some true) else (some false)))) else (some false)))) else (some false))))) = some r := H
      have A21 := Aside0.mk A210
      clear A210
      replace H := Option.bind_eq_some_iff.mp H
      obtain ⟨⟨t348, t351, t354⟩, A220, H⟩ := H
      replace H : ((laws_toThread.f k l1_0 l1_1 l1_2 a1_3).bind fun bt358 => ((impl_StateOf.f t348 t351 t354 bt358.1 bt358.2.1 bt358.2.2.1 bt358.2.2.2).bind fun t369 => (if t369 = t347 then ((laws_toProgram.f k l0_0 l0_1 l0_2).bind fun bt370 => ((laws_eqProgram.f k t348 t351 t354 bt370.1 bt370.2.1 bt370.2.2).bind fun t379 => (if t379 = true then ((laws_toThread.f k l1_0 l1_1 l1_2 a1_3).bind fun bt380 => ((laws_eqThread.f k bt358.1 bt358.2.1 bt358.2.2.1 bt358.2.2.2 bt380.1 bt380.2.1 bt380.2.2.1 bt380.2.2.2).bind fun t390 => (if t390 = true then (some true) else (some false)))) else (some false)))) else (some false)))) = some r := H
      have A22 := Aside0.mk A220
      clear A220
      replace H := Option.bind_eq_some_iff.mp H
      obtain ⟨⟨t358, t361, t364, t367⟩, A230, H⟩ := H
      replace H : ((impl_StateOf.f t348 t351 t354 t358 t361 t364 t367).bind fun t369 => (if t369 = t347 then ((laws_toProgram.f k l0_0 l0_1 l0_2).bind fun bt370 => ((laws_eqProgram.f k t348 t351 t354 bt370.1 bt370.2.1 bt370.2.2).bind fun t379 => (if t379 = true then ((laws_toThread.f k l1_0 l1_1 l1_2 a1_3).bind fun bt380 => ((laws_eqThread.f k t358 t361 t364 t367 bt380.1 bt380.2.1 bt380.2.2.1 bt380.2.2.2).bind fun t390 => (if t390 = true then (some true) else (some false)))) else (some false)))) else (some false))) = some r := H
      have A23 := Aside0.mk A230
      clear A230
      replace H := Option.bind_eq_some_iff.mp H
      obtain ⟨t369, A240, H⟩ := H
      replace H : (if t369 = t347 then ((laws_toProgram.f k l0_0 l0_1 l0_2).bind fun bt370 => ((laws_eqProgram.f k t348 t351 t354 bt370.1 bt370.2.1 bt370.2.2).bind fun t379 => (if t379 = true then ((laws_toThread.f k l1_0 l1_1 l1_2 a1_3).bind fun bt380 => ((laws_eqThread.f k t358 t361 t364 t367 bt380.1 bt380.2.1 bt380.2.2.1 bt380.2.2.2).bind fun t390 => (if t390 = true then (some true) else (some false)))) else (some false)))) else (some false)) = some r := H
      have A24 := Aside0.mk A240
      clear A240
      by_cases c25 : t369 = t347
      · rw [if_pos c25] at H
        have c25b0 : (t369 == t347) = true := beq_iff_eq.mpr c25
        have c25b1 : (t369 != t347) = false := bne_eq_false_iff_eq.mpr c25
        clear c25
        replace H := Option.bind_eq_some_iff.mp H
        obtain ⟨⟨t370, t373, t376⟩, A260, H⟩ := H
        replace H : ((laws_eqProgram.f k t348 t351 t354 t370 t373 t376).bind fun t379 => (if t379 = true then ((laws_toThread.f k l1_0 l1_1 l1_2 a1_3).bind fun bt380 => ((laws_eqThread.f k t358 t361 t364 t367 bt380.1 bt380.2.1 bt380.2.2.1 bt380.2.2.2).bind fun t390 => (if t390 = true then (some true) else (some false)))) else (some false))) = some r := H
        have A26 := Aside0.mk A260
        clear A260
        replace H := Option.bind_eq_some_iff.mp H
        obtain ⟨t379, A270, H⟩ := H
        replace H : (if t379 = true then ((laws_toThread.f k l1_0 l1_1 l1_2 a1_3).bind fun bt380 => ((laws_eqThread.f k t358 t361 t364 t367 bt380.1 bt380.2.1 bt380.2.2.1 bt380.2.2.2).bind fun t390 => (if t390 = true then (some true) else (some false)))) else (some false)) = some r := H
        have A27 := Aside0.mk A270
        clear A270
        by_cases c28 : t379 = true
        · subst c28
          have H1 : ((laws_toThread.f k l1_0 l1_1 l1_2 a1_3).bind fun bt380 => ((laws_eqThread.f k t358 t361 t364 t367 bt380.1 bt380.2.1 bt380.2.2.1 bt380.2.2.2).bind fun t390 => (if t390 = true then (some true) else (some false)))) = some r := by rw [if_pos rfl] at H; exact H
          clear H
          have H := H1
          clear H1
          replace H := Option.bind_eq_some_iff.mp H
          obtain ⟨⟨t380, t383, t386, t389⟩, A290, H⟩ := H
          replace H : ((laws_eqThread.f k t358 t361 t364 t367 t380 t383 t386 t389).bind fun t390 => (if t390 = true then (some true) else (some false))) = some r := H
          have A29 := Aside0.mk A290
          clear A290
          replace H := Option.bind_eq_some_iff.mp H
          obtain ⟨t390, A300, H⟩ := H
          replace H : (if t390 = true then (some true) else (some false)) = some r := H
          have A30 := Aside0.mk A300
          clear A300
          by_cases c31 : t390 = true
          · subst c31
            have H1 : (some true) = some r := by rw [if_pos rfl] at H; exact H
            clear H
            have H := H1
            clear H1
            obtain rfl := Option.some.inj H
            go_enter Try.func3, Try.ntmps3
            try go_wp2_with (first | ((with_reducible refine gate_dst (N := 2) rfl ?_); refine box_event ?hg (N := 2) ?hd (cs := #[.slice A0_0 l0_0.length c0_0, .slice A0_1 l0_1.length c0_1, .slice A0_2 l0_2.length c0_2]) (t := 26) ?hr ?_; (case hd => rfl); (case hg => rfl); (case hr => first | (go_simp; done) | (go_simp; rfl)); intro gb324 hg w32 hbox hb; have BK324 := Aside0.mk (hbox); have GW324 := Hg_ HB hg; have GE324 := GW324; replace HB := Hs_ HB hb; clear hb hbox hg) | ((with_reducible refine gate_dst (N := 3) rfl ?_); refine box_event ?hg (N := 3) ?hd (cs := #[.slice A1_0 l1_0.length c1_0, .slice A1_1 l1_1.length c1_1, .slice A1_2 l1_2.length c1_2, .int .i64 a1_3]) (t := 32) ?hr ?_; (case hd => rfl); (case hg => rfl); (case hr => first | (go_simp; done) | (go_simp; rfl)); intro gb325 hg w33 hbox hb; have BK325 := Aside0.mk (hbox); have GW325 := Hg_ HB hg; have GE325 := GW325; have NB324_325 := Bl_ BK324 hg; have NB325_324 := Bm_ NB324_325; replace BK324 := Bb_ BK324 hb; replace HB := Hs_ HB hb; clear hb hbox hg; have hnb34 := NB324_325.out; have hnc34 := NB325_324.out; obtain ⟨hcz35_0, hcz35_1, hcz35_2, hfz35_0, hfz35_1, hfz35_2⟩ := Bc3_ BK324) | ((with_reducible refine gate_callee (f := 13) rfl ?_); refine goesL_ (some 12) rfl rfl Try.func13 (by kernel_rfl) rfl #[.agg #[.slice A0_0 l0_0.length c0_0, .slice A0_1 l0_1.length c0_1, .slice A0_2 l0_2.length c0_2], .int .i64 1048576] rfl Mp_ ?_; (with_reducible refine (laws_szProgram.calls k _ _ l0_0 _ _ l0_1 _ _ l0_2 1048576 t326 _ ?side1 ?side2 ?side3 ?side4 ?side5 ?side6 A3.out).mono ?_); (case side1 => exact Sc_ HR0_0 HB); (case side2 => exact HC0_0.out); (case side3 => exact Sc_ HR0_1 HB); (case side4 => exact HC0_1.out); (case side5 => exact Sc_ HR0_2 HB); (case side6 => exact HC0_2.out); rintro e w36 ⟨rfl, hb⟩; refine ⟨_, rfl, ?_⟩; replace BK324 := Bb_ BK324 hb; replace BK325 := Bb_ BK325 hb; replace HB := Hs_ HB hb; (try clear hb); (try clear hb2); (try clear hk); (try clear hi); obtain ⟨hcz37_0, hcz37_1, hcz37_2, hcz37_3, hfz37_0, hfz37_1, hfz37_2, hfz37_3⟩ := Bc4_ BK325) | ((with_reducible refine gate_callee (f := 14) rfl ?_); refine goesL_ (some 17) rfl rfl Try.func14 (by kernel_rfl) rfl #[.agg #[.slice A1_0 l1_0.length c1_0, .slice A1_1 l1_1.length c1_1, .slice A1_2 l1_2.length c1_2, .int .i64 a1_3], .int .i64 t326] rfl Mp_ ?_; (with_reducible refine (laws_szThread.calls k _ _ l1_0 _ _ l1_1 _ _ l1_2 a1_3 t326 t327 _ ?side1 ?side2 ?side3 ?side4 ?side5 ?side6 A10.out).mono ?_); (case side1 => exact Sc_ HR1_0 HB); (case side2 => exact HC1_0.out); (case side3 => exact Sc_ HR1_1 HB); (case side4 => exact HC1_1.out); (case side5 => exact Sc_ HR1_2 HB); (case side6 => exact HC1_2.out); rintro e w38 ⟨rfl, hb⟩; refine ⟨_, rfl, ?_⟩; replace BK324 := Bb_ BK324 hb; replace BK325 := Bb_ BK325 hb; replace HB := Hs_ HB hb; (try clear hb); (try clear hb2); (try clear hk); (try clear hi)))
            have n0_ := Aside0.mk (blk_drew BK324.out)
            have n1_ := Aside0.mk (blk_drew BK325.out)
            have n2_ := Aside0.mk (below_drew1 HB.out)
            clear BK324
            clear BK325
            clear HB
            have BK324 := n0_
            have BK325 := n1_
            have HB := n2_
            clear n0_ n1_ n2_
            refine start_ (n := 6) (S := fun w' => w'.cell? ⟨gb324, 0, none⟩ = some (.slice A0_0 l0_0.length c0_0) ∧ w'.cell? ⟨gb324, 1, none⟩ = some (.slice A0_1 l0_1.length c0_1) ∧ w'.cell? ⟨gb324, 2, none⟩ = some (.slice A0_2 l0_2.length c0_2) ∧ w'.cell? ⟨gb325, 0, none⟩ = some (.slice A1_0 l1_0.length c1_0) ∧ w'.cell? ⟨gb325, 1, none⟩ = some (.slice A1_1 l1_1.length c1_1) ∧ w'.cell? ⟨gb325, 2, none⟩ = some (.slice A1_2 l1_2.length c1_2) ∧ w'.cell? ⟨gb325, 3, none⟩ = some (.int .i64 a1_3)) (ds := []) #[false, false, false, false, false, false] (by kernel_rfl) rfl rfl ⟨(blk_cell BK324.out 0).trans rfl, (blk_cell BK324.out 1).trans rfl, (blk_cell BK324.out 2).trans rfl, (blk_cell BK325.out 0).trans rfl, (blk_cell BK325.out 1).trans rfl, (blk_cell BK325.out 2).trans rfl, (blk_cell BK325.out 3).trans rfl⟩ (fun hHeld => ?_)
            generalize w38.drew = w39 at BK324 BK325 HB hHeld ⊢
            refine take_ (i := 0) (N := some 20) (v := ?_) (a' := ?_) #[true, false, false, false, false, false] rfl rfl (by kernel_rfl) (fun _ _ _ h => h) (Or.inl ⟨by rfl, ?_⟩) hHeld ?_ ?_
            rotate_left
            · rintro w' ⟨s0, s1, s2, s3, s4, s5, s6⟩
              go_simp
              with_reducible rfl
            rotate_left
            · simp only [Act.put, List.setIfInBounds_toArray, List.set_cons_zero, List.set_cons_succ, i64_w, i32_w]
              rfl
            refine take_ (i := 2) (N := some 22) (v := ?_) (a' := ?_) #[true, false, true, false, false, false] rfl rfl (by kernel_rfl) (fun _ _ _ h => h) (Or.inl ⟨by rfl, ?_⟩) hHeld ?_ ?_
            rotate_left
            · rintro w' ⟨s0, s1, s2, s3, s4, s5, s6⟩
              go_simp
              with_reducible rfl
            rotate_left
            · simp only [Act.put, List.setIfInBounds_toArray, List.set_cons_zero, List.set_cons_succ, i64_w, i32_w]
              rfl
            refine one_ (i := 1) (N := some 21) #[true, true, true, false, false, false] rfl rfl (by kernel_rfl) (by decide) (fun K hK => ?_)
            refine goes_ Try.func16 (by kernel_rfl) rfl #[.agg #[.slice A0_0 l0_0.length c0_0, .slice A0_1 l0_1.length c0_1, .slice A0_2 l0_2.length c0_2]] (by rfl) rfl rfl Mp_ ?_
            with_reducible refine (laws_toProgram.calls k _ _ l0_0 _ _ l0_1 _ _ l0_2 t328 t331 t334 _ ?side1 ?side2 ?side3 ?side4 ?side5 ?side6 A19.out).mono ?_
            (case side1 => exact Sc_ HR0_0 HB)
            (case side2 => exact HC0_0.out)
            (case side3 => exact Sc_ HR0_1 HB)
            (case side4 => exact HC0_1.out)
            (case side5 => exact Sc_ HR0_2 HB)
            (case side6 => exact HC0_2.out)
            rintro e w40 ⟨v329, v332, v335, rfl, ho0, ho1, ho2, hb⟩
            refine ⟨_, rfl, ?_⟩
            have n0_ := Aside0.mk (Kd.S_lower ho0 (below_size (by repeat (first | (with_reducible first | exact HB.out | apply below_alloc | apply pw_below_drewN | apply below_drew1 | refine below_set ?_ GE324.out | refine below_set ?_ GE325.out) | exact HB.out))))
            have n1_ := Aside0.mk (Kd.S_lower ho1 (below_size (by repeat (first | (with_reducible first | exact HB.out | apply below_alloc | apply pw_below_drewN | apply below_drew1 | refine below_set ?_ GE324.out | refine below_set ?_ GE325.out) | exact HB.out))))
            have n2_ := Aside0.mk (Kd.S_lower ho2 (below_size (by repeat (first | (with_reducible first | exact HB.out | apply below_alloc | apply pw_below_drewN | apply below_drew1 | refine below_set ?_ GE324.out | refine below_set ?_ GE325.out) | exact HB.out))))
            have n3_ := Bb_ BK324 hb
            have n4_ := Bb_ BK325 hb
            have n5_ := Hs_ HB hb
            clear BK324
            clear BK325
            clear HB
            have HO330 := n0_
            have HO333 := n1_
            have HO336 := n2_
            have BK324 := n3_
            have BK325 := n4_
            have HB := n5_
            clear n0_ n1_ n2_ n3_ n4_ n5_
            (try clear hb)
            (try clear hb2)
            (try clear hk)
            (try clear hi)
            (try clear ho0)
            (try clear ho1)
            (try clear ho2)
            refine hK.out _ _ ⟨(blk_cell BK324.out 0).trans rfl, (blk_cell BK324.out 1).trans rfl, (blk_cell BK324.out 2).trans rfl, (blk_cell BK325.out 0).trans rfl, (blk_cell BK325.out 1).trans rfl, (blk_cell BK325.out 2).trans rfl, (blk_cell BK325.out 3).trans rfl⟩ (fun hHeld => ?_)
            clear hK K
            refine norm_ (a' := ?_) ?_ ?_
            rotate_left
            · show Act.put _ (some 21) _ = _
              simp only [Act.put, List.setIfInBounds_toArray, List.set_cons_zero, List.set_cons_succ, i64_w, i32_w]
              rfl
            refine one_ (i := 3) (N := some 23) #[true, true, true, true, false, false] rfl rfl (by kernel_rfl) (by decide) (fun K hK => ?_)
            refine goes_ Try.func17 (by kernel_rfl) rfl #[.agg #[.slice A1_0 l1_0.length c1_0, .slice A1_1 l1_1.length c1_1, .slice A1_2 l1_2.length c1_2, .int .i64 a1_3]] (by rfl) rfl rfl Mp_ ?_
            with_reducible refine (laws_toThread.calls k _ _ l1_0 _ _ l1_1 _ _ l1_2 a1_3 t337 t340 t343 t346 _ ?side1 ?side2 ?side3 ?side4 ?side5 ?side6 A20.out).mono ?_
            (case side1 => exact Sc_ HR1_0 HB)
            (case side2 => exact HC1_0.out)
            (case side3 => exact Sc_ HR1_1 HB)
            (case side4 => exact HC1_1.out)
            (case side5 => exact Sc_ HR1_2 HB)
            (case side6 => exact HC1_2.out)
            rintro e w41 ⟨v338, v341, v344, rfl, ho0, ho1, ho2, hb⟩
            refine ⟨_, rfl, ?_⟩
            have n0_ := Aside0.mk (Kd.S_mono (Kd.S_told (Kd.S_told (Kd.S_old (by (with_reducible repeat (first | apply Kd.S_alloc | apply Kd.S_drewN | apply Kd.S_drew)); exact HO330.out) hb) (Kd.R_base ho0)) (Kd.R_base ho2)) (fun _ h_ => h_.1))
            have n1_ := Aside0.mk (Kd.S_elder' (by (with_reducible repeat (first | apply Kd.S_alloc | apply Kd.S_drewN | apply Kd.S_drew)); exact HO333.out) (Kd.R_base ho1) hb)
            have n2_ := Aside0.mk (Kd.S_elder' (by (with_reducible repeat (first | apply Kd.S_alloc | apply Kd.S_drewN | apply Kd.S_drew)); exact HO336.out) (Kd.R_base ho1) hb)
            have n3_ := Aside0.mk (Kd.R_lower ho0 (below_size (by repeat (first | (with_reducible first | exact HB.out | apply below_alloc | apply pw_below_drewN | apply below_drew1 | refine below_set ?_ GE324.out | refine below_set ?_ GE325.out) | exact HB.out))))
            have n4_ := Aside0.mk (Kd.R_lower ho1 (below_size (by repeat (first | (with_reducible first | exact HB.out | apply below_alloc | apply pw_below_drewN | apply below_drew1 | refine below_set ?_ GE324.out | refine below_set ?_ GE325.out) | exact HB.out))))
            have n5_ := Aside0.mk (Kd.R_lower ho2 (below_size (by repeat (first | (with_reducible first | exact HB.out | apply below_alloc | apply pw_below_drewN | apply below_drew1 | refine below_set ?_ GE324.out | refine below_set ?_ GE325.out) | exact HB.out))))
            have n6_ := Bb_ BK324 hb
            have n7_ := Bb_ BK325 hb
            have n8_ := Hs_ HB hb
            clear HO330
            clear HO333
            clear HO336
            clear BK324
            clear BK325
            clear HB
            have HO330 := n0_
            have HO333 := n1_
            have HO336 := n2_
            have HO339 := n3_
            have HO342 := n4_
            have HO345 := n5_
            have BK324 := n6_
            have BK325 := n7_
            have HB := n8_
            clear n0_ n1_ n2_ n3_ n4_ n5_ n6_ n7_ n8_
            (try clear hb)
            (try clear hb2)
            (try clear hk)
            (try clear hi)
            (try clear ho0)
            (try clear ho1)
            (try clear ho2)
            obtain ⟨Ao42, co42, eo42⟩ := Kd.S_slice HO330.out
            (first | subst eo42 | (injection eo42 with f1_ f2_ f3_; have f4_ := f1_.symm; have f5_ := f3_.symm; clear f1_ f2_ f3_; subst f4_; subst f5_))
            obtain ⟨Ao43, co43, eo43⟩ := Kd.S_slice HO333.out
            (first | subst eo43 | (injection eo43 with f1_ f2_ f3_; have f4_ := f1_.symm; have f5_ := f3_.symm; clear f1_ f2_ f3_; subst f4_; subst f5_))
            obtain ⟨Ao44, co44, eo44⟩ := Kd.S_slice HO336.out
            (first | subst eo44 | (injection eo44 with f1_ f2_ f3_; have f4_ := f1_.symm; have f5_ := f3_.symm; clear f1_ f2_ f3_; subst f4_; subst f5_))
            obtain ⟨Ao45, co45, eo45⟩ := Kd.R_slice HO339.out
            (first | subst eo45 | (injection eo45 with f1_ f2_ f3_; have f4_ := f1_.symm; have f5_ := f3_.symm; clear f1_ f2_ f3_; subst f4_; subst f5_))
            obtain ⟨Ao46, co46, eo46⟩ := Kd.R_slice HO342.out
            (first | subst eo46 | (injection eo46 with f1_ f2_ f3_; have f4_ := f1_.symm; have f5_ := f3_.symm; clear f1_ f2_ f3_; subst f4_; subst f5_))
            obtain ⟨Ao47, co47, eo47⟩ := Kd.R_slice HO345.out
            (first | subst eo47 | (injection eo47 with f1_ f2_ f3_; have f4_ := f1_.symm; have f5_ := f3_.symm; clear f1_ f2_ f3_; subst f4_; subst f5_))
            refine hK.out _ _ ⟨(blk_cell BK324.out 0).trans rfl, (blk_cell BK324.out 1).trans rfl, (blk_cell BK324.out 2).trans rfl, (blk_cell BK325.out 0).trans rfl, (blk_cell BK325.out 1).trans rfl, (blk_cell BK325.out 2).trans rfl, (blk_cell BK325.out 3).trans rfl⟩ (fun hHeld => ?_)
            clear hK K
            refine norm_ (a' := ?_) ?_ ?_
            rotate_left
            · show Act.put _ (some 23) _ = _
              simp only [Act.put, List.setIfInBounds_toArray, List.set_cons_zero, List.set_cons_succ, i64_w, i32_w]
              rfl
            refine one_ (i := 4) (N := some 24) #[true, true, true, true, true, false] rfl rfl (by kernel_rfl) (by decide) (fun K hK => ?_)
            refine goes_ Try.func15 (by kernel_rfl) rfl #[.agg #[.slice Ao42 t328.length co42, .slice Ao43 t331.length co43, .slice Ao44 t334.length co44], .agg #[.slice Ao45 t337.length co45, .slice Ao46 t340.length co46, .slice Ao47 t343.length co47, .int .i64 t346]] (by rfl) rfl rfl Mp_ ?_
            with_reducible refine (spec_StateOf.calls _ _ t328 _ _ t331 _ _ t334 _ _ t337 _ _ t340 _ _ t343 t346 t347 _ ?side1 ?side2 ?side3 ?side4 ?side5 ?side6 ?side7 ?side8 ?side9 ?side10 ?side11 ?side12 A21.out).mono ?_
            (case side1 => repeat (first | exact (Kd.S_reads' HO330.out).2.2 | (with_reducible refine Kd.C_alloc ?_ _) | (with_reducible refine Kd.C_drewN ?_ _) | (with_reducible refine Kd.C_drew ?_)))
            (case side2 => exact (Kd.S_reads' HO330.out).2.1)
            (case side3 => repeat (first | exact (Kd.S_reads' HO333.out).2.2 | (with_reducible refine Kd.C_alloc ?_ _) | (with_reducible refine Kd.C_drewN ?_ _) | (with_reducible refine Kd.C_drew ?_)))
            (case side4 => exact (Kd.S_reads' HO333.out).2.1)
            (case side5 => repeat (first | exact (Kd.S_reads' HO336.out).2.2 | (with_reducible refine Kd.C_alloc ?_ _) | (with_reducible refine Kd.C_drewN ?_ _) | (with_reducible refine Kd.C_drew ?_)))
            (case side6 => exact (Kd.S_reads' HO336.out).2.1)
            (case side7 => repeat (first | exact (Kd.R_reads' HO339.out).2.2 | (with_reducible refine Kd.C_alloc ?_ _) | (with_reducible refine Kd.C_drewN ?_ _) | (with_reducible refine Kd.C_drew ?_)))
            (case side8 => exact (Kd.R_reads' HO339.out).2.1)
            (case side9 => repeat (first | exact (Kd.R_reads' HO342.out).2.2 | (with_reducible refine Kd.C_alloc ?_ _) | (with_reducible refine Kd.C_drewN ?_ _) | (with_reducible refine Kd.C_drew ?_)))
            (case side10 => exact (Kd.R_reads' HO342.out).2.1)
            (case side11 => repeat (first | exact (Kd.R_reads' HO345.out).2.2 | (with_reducible refine Kd.C_alloc ?_ _) | (with_reducible refine Kd.C_drewN ?_ _) | (with_reducible refine Kd.C_drew ?_)))
            (case side12 => exact (Kd.R_reads' HO345.out).2.1)
            rintro e w48 ⟨rfl, hb⟩
            refine ⟨_, rfl, ?_⟩
            have n0_ := Sb_ HO330 hb
            have n1_ := Sb_ HO333 hb
            have n2_ := Sb_ HO336 hb
            have n3_ := Rb_ HO339 hb
            have n4_ := Rb_ HO342 hb
            have n5_ := Rb_ HO345 hb
            have n6_ := Bb_ BK324 hb
            have n7_ := Bb_ BK325 hb
            have n8_ := Hs_ HB hb
            clear HO330
            clear HO333
            clear HO336
            clear HO339
            clear HO342
            clear HO345
            clear BK324
            clear BK325
            clear HB
            have HO330 := n0_
            have HO333 := n1_
            have HO336 := n2_
            have HO339 := n3_
            have HO342 := n4_
            have HO345 := n5_
            have BK324 := n6_
            have BK325 := n7_
            have HB := n8_
            clear n0_ n1_ n2_ n3_ n4_ n5_ n6_ n7_ n8_
            (try clear hb)
            (try clear hb2)
            (try clear hk)
            (try clear hi)
            refine hK.out _ _ ⟨(blk_cell BK324.out 0).trans rfl, (blk_cell BK324.out 1).trans rfl, (blk_cell BK324.out 2).trans rfl, (blk_cell BK325.out 0).trans rfl, (blk_cell BK325.out 1).trans rfl, (blk_cell BK325.out 2).trans rfl, (blk_cell BK325.out 3).trans rfl⟩ (fun hHeld => ?_)
            clear hK K
            refine norm_ (a' := ?_) ?_ ?_
            rotate_left
            · show Act.put _ (some 24) _ = _
              simp only [Act.put, List.setIfInBounds_toArray, List.set_cons_zero, List.set_cons_succ, i64_w, i32_w]
              rfl
            refine pure_ (i := 5) (N := some 6) (v := ?_) (a' := ?_) #[true, true, true, true, true, true] rfl rfl (by kernel_rfl) (fun _ _ _ h => h) (Or.inl ⟨by rfl, ?_⟩) ?_ ?_
            rotate_left
            · intro w'
              go_simp
              with_reducible rfl
            rotate_left
            · simp only [Act.put, List.setIfInBounds_toArray, List.set_cons_zero, List.set_cons_succ, i64_w, i32_w]
              rfl
            refine done_ (by kernel_rfl) ?_
            obtain ⟨hcz49_0, hcz49_1, hcz49_2, hfz49_0, hfz49_1, hfz49_2⟩ := Bc3_ BK324
            try go_wp2_with (first | ((with_reducible refine gate_callee (f := 16) rfl ?_); refine goesL_ (some 26) rfl rfl Try.func16 (by kernel_rfl) rfl #[.agg #[.slice A0_0 l0_0.length c0_0, .slice A0_1 l0_1.length c0_1, .slice A0_2 l0_2.length c0_2]] rfl Mp_ ?_; (with_reducible refine (laws_toProgram.calls k _ _ l0_0 _ _ l0_1 _ _ l0_2 t348 t351 t354 _ ?side1 ?side2 ?side3 ?side4 ?side5 ?side6 A22.out).mono ?_); (case side1 => exact Sc_ HR0_0 HB); (case side2 => exact HC0_0.out); (case side3 => exact Sc_ HR0_1 HB); (case side4 => exact HC0_1.out); (case side5 => exact Sc_ HR0_2 HB); (case side6 => exact HC0_2.out); rintro e w50 ⟨v349, v352, v355, rfl, ho0, ho1, ho2, hb⟩; refine ⟨_, rfl, ?_⟩; have HO350 := Aside0.mk (Kd.S_lower (Kd.S_new' (Kd.S_new' (Kd.S_new' ho0 (Kd.S_lt (by (with_reducible repeat (first | apply Kd.S_alloc | apply Kd.S_drewN | apply Kd.S_drew)); exact HO330.out))) (Kd.R_lt (by (with_reducible repeat (first | apply Kd.R_alloc | apply Kd.R_drewN | apply Kd.R_drew)); exact HO339.out))) (Kd.R_lt (by (with_reducible repeat (first | apply Kd.R_alloc | apply Kd.R_drewN | apply Kd.R_drew)); exact HO345.out))) (below_size (by repeat (first | (with_reducible first | exact HB.out | apply below_alloc | apply pw_below_drewN | apply below_drew1 | refine below_set ?_ GE324.out | refine below_set ?_ GE325.out) | exact HB.out)))); have HO353 := Aside0.mk (Kd.S_lower (Kd.S_new' (Kd.S_new' ho1 (Kd.S_lt (by (with_reducible repeat (first | apply Kd.S_alloc | apply Kd.S_drewN | apply Kd.S_drew)); exact HO333.out))) (Kd.R_lt (by (with_reducible repeat (first | apply Kd.R_alloc | apply Kd.R_drewN | apply Kd.R_drew)); exact HO342.out))) (below_size (by repeat (first | (with_reducible first | exact HB.out | apply below_alloc | apply pw_below_drewN | apply below_drew1 | refine below_set ?_ GE324.out | refine below_set ?_ GE325.out) | exact HB.out)))); have HO356 := Aside0.mk (Kd.S_lower (Kd.S_new' (Kd.S_new' ho2 (Kd.S_lt (by (with_reducible repeat (first | apply Kd.S_alloc | apply Kd.S_drewN | apply Kd.S_drew)); exact HO336.out))) (Kd.R_lt (by (with_reducible repeat (first | apply Kd.R_alloc | apply Kd.R_drewN | apply Kd.R_drew)); exact HO342.out))) (below_size (by repeat (first | (with_reducible first | exact HB.out | apply below_alloc | apply pw_below_drewN | apply below_drew1 | refine below_set ?_ GE324.out | refine below_set ?_ GE325.out) | exact HB.out)))); replace HO330 := Aside0.mk (Kd.S_elder' (by (with_reducible repeat (first | apply Kd.S_alloc | apply Kd.S_drewN | apply Kd.S_drew)); exact HO330.out) (Kd.S_base ho0) hb); replace HO333 := Aside0.mk (Kd.S_elder' (by (with_reducible repeat (first | apply Kd.S_alloc | apply Kd.S_drewN | apply Kd.S_drew)); exact HO333.out) (Kd.S_base ho1) hb); replace HO336 := Aside0.mk (Kd.S_elder' (by (with_reducible repeat (first | apply Kd.S_alloc | apply Kd.S_drewN | apply Kd.S_drew)); exact HO336.out) (Kd.S_base ho2) hb); replace HO339 := Rb_ HO339 hb; replace HO342 := Rb_ HO342 hb; replace HO345 := Rb_ HO345 hb; replace BK324 := Bb_ BK324 hb; replace BK325 := Bb_ BK325 hb; replace HB := Hs_ HB hb; (try clear hb); (try clear hb2); (try clear hk); (try clear hi); (try clear ho0); (try clear ho1); (try clear ho2)) | ((with_reducible refine gate_dst (N := 7) rfl ?_); refine box_event ?hg (N := 7) ?hd (cs := #[.slice none 0 0, .slice none 0 0, .slice none 0 0]) (t := 40) ?hr ?_; (case hd => rfl); (case hg => rfl); (case hr => first | (go_simp; done) | (go_simp; rfl)); intro gb357 hg w51 hbox hb; have BK357 := Aside0.mk (hbox); have GW357 := Hg_ HB hg; have GE357 := GW357; have NB324_357 := Bl_ BK324 hg; have NB357_324 := Bm_ NB324_357; have NB325_357 := Bl_ BK325 hg; have NB357_325 := Bm_ NB325_357; replace HO330 := Sb_ HO330 hb; replace HO333 := Sb_ HO333 hb; replace HO336 := Sb_ HO336 hb; replace HO339 := Rb_ HO339 hb; replace HO342 := Rb_ HO342 hb; replace HO345 := Rb_ HO345 hb; replace HO350 := Sb_ HO350 hb; replace HO353 := Sb_ HO353 hb; replace HO356 := Sb_ HO356 hb; replace BK324 := Bb_ BK324 hb; replace BK325 := Bb_ BK325 hb; replace HB := Hs_ HB hb; clear hb hbox hg; obtain ⟨Ao52, co52, eo52⟩ := Kd.S_slice HO350.out; subst eo52; have hnb53 := NB357_324.out; have hnc53 := NB324_357.out; have hnb54 := NB357_325.out; have hnc54 := NB325_357.out; obtain ⟨hcz55_0, hcz55_1, hcz55_2, hfz55_0, hfz55_1, hfz55_2⟩ := Bc3_ BK357; obtain ⟨Ao56, co56, eo56⟩ := Kd.S_slice HO353.out; subst eo56; obtain ⟨Ao57, co57, eo57⟩ := Kd.S_slice HO356.out; subst eo57; obtain ⟨hcz58_0, hcz58_1, hcz58_2, hcz58_3, hfz58_0, hfz58_1, hfz58_2, hfz58_3⟩ := Bc4_ BK325) | ((with_reducible refine gate_callee (f := 17) rfl ?_); refine goesL_ (some 28) rfl rfl Try.func17 (by kernel_rfl) rfl #[.agg #[.slice A1_0 l1_0.length c1_0, .slice A1_1 l1_1.length c1_1, .slice A1_2 l1_2.length c1_2, .int .i64 a1_3]] rfl Mp_ ?_; (with_reducible refine (laws_toThread.calls k _ _ l1_0 _ _ l1_1 _ _ l1_2 a1_3 t358 t361 t364 t367 _ ?side1 ?side2 ?side3 ?side4 ?side5 ?side6 A23.out).mono ?_); (case side1 => exact Kd.C_below HR1_0.out (by repeat (first | (with_reducible first | exact HB.out | apply below_alloc | apply pw_below_drewN | apply below_drew1 | refine below_set ?_ GE324.out | refine below_set ?_ GE325.out | refine below_set ?_ GE357.out) | exact HB.out))); (case side2 => exact HC1_0.out); (case side3 => exact Kd.C_below HR1_1.out (by repeat (first | (with_reducible first | exact HB.out | apply below_alloc | apply pw_below_drewN | apply below_drew1 | refine below_set ?_ GE324.out | refine below_set ?_ GE325.out | refine below_set ?_ GE357.out) | exact HB.out))); (case side4 => exact HC1_1.out); (case side5 => exact Kd.C_below HR1_2.out (by repeat (first | (with_reducible first | exact HB.out | apply below_alloc | apply pw_below_drewN | apply below_drew1 | refine below_set ?_ GE324.out | refine below_set ?_ GE325.out | refine below_set ?_ GE357.out) | exact HB.out))); (case side6 => exact HC1_2.out); rintro e w59 ⟨v359, v362, v365, rfl, ho0, ho1, ho2, hb⟩; refine ⟨_, rfl, ?_⟩; have HO360 := Aside0.mk (Kd.R_lower (Kd.R_new' (Kd.R_new' ho0 (Kd.R_lt (by (with_reducible repeat (first | apply Kd.R_alloc | apply Kd.R_drewN | apply Kd.R_drew)); exact (Kd.R_mono (Kd.R_far (p := ⟨gb357, 2, none⟩) (Kd.R_far (p := ⟨gb357, 1, none⟩) (Kd.R_far (p := ⟨gb357, 0, none⟩) (Kd.R_types HO339.out BK357.out (by decide)) (fun _ hk => hk.2) (.slice Ao52 t348.length co52)) (fun _ hk => hk.2) (.slice Ao56 t351.length co56)) (fun _ hk => hk.2) (.slice Ao57 t354.length co57)) (fun _ h_ => h_.1))))) (Kd.R_lt (by (with_reducible repeat (first | apply Kd.R_alloc | apply Kd.R_drewN | apply Kd.R_drew)); exact (Kd.R_mono (Kd.R_far (p := ⟨gb357, 2, none⟩) (Kd.R_far (p := ⟨gb357, 1, none⟩) (Kd.R_far (p := ⟨gb357, 0, none⟩) (Kd.R_types HO345.out BK357.out (by decide)) (fun _ hk => hk.2) (.slice Ao52 t348.length co52)) (fun _ hk => hk.2) (.slice Ao56 t351.length co56)) (fun _ hk => hk.2) (.slice Ao57 t354.length co57)) (fun _ h_ => h_.1))))) (below_size (by repeat (first | (with_reducible first | exact HB.out | apply below_alloc | apply pw_below_drewN | apply below_drew1 | refine below_set ?_ GE324.out | refine below_set ?_ GE325.out | refine below_set ?_ GE357.out) | exact HB.out)))); have HO363 := Aside0.mk (Kd.R_lower (Kd.R_new' ho1 (Kd.R_lt (by (with_reducible repeat (first | apply Kd.R_alloc | apply Kd.R_drewN | apply Kd.R_drew)); exact (Kd.R_mono (Kd.R_far (p := ⟨gb357, 2, none⟩) (Kd.R_far (p := ⟨gb357, 1, none⟩) (Kd.R_far (p := ⟨gb357, 0, none⟩) (Kd.R_types HO342.out BK357.out (by decide)) (fun _ hk => hk.2) (.slice Ao52 t348.length co52)) (fun _ hk => hk.2) (.slice Ao56 t351.length co56)) (fun _ hk => hk.2) (.slice Ao57 t354.length co57)) (fun _ h_ => h_.1))))) (below_size (by repeat (first | (with_reducible first | exact HB.out | apply below_alloc | apply pw_below_drewN | apply below_drew1 | refine below_set ?_ GE324.out | refine below_set ?_ GE325.out | refine below_set ?_ GE357.out) | exact HB.out)))); have HO366 := Aside0.mk (Kd.R_lower (Kd.R_new' (Kd.R_new' ho2 (Kd.R_lt (by (with_reducible repeat (first | apply Kd.R_alloc | apply Kd.R_drewN | apply Kd.R_drew)); exact (Kd.R_mono (Kd.R_far (p := ⟨gb357, 2, none⟩) (Kd.R_far (p := ⟨gb357, 1, none⟩) (Kd.R_far (p := ⟨gb357, 0, none⟩) (Kd.R_types HO339.out BK357.out (by decide)) (fun _ hk => hk.2) (.slice Ao52 t348.length co52)) (fun _ hk => hk.2) (.slice Ao56 t351.length co56)) (fun _ hk => hk.2) (.slice Ao57 t354.length co57)) (fun _ h_ => h_.1))))) (Kd.R_lt (by (with_reducible repeat (first | apply Kd.R_alloc | apply Kd.R_drewN | apply Kd.R_drew)); exact (Kd.R_mono (Kd.R_far (p := ⟨gb357, 2, none⟩) (Kd.R_far (p := ⟨gb357, 1, none⟩) (Kd.R_far (p := ⟨gb357, 0, none⟩) (Kd.R_types HO345.out BK357.out (by decide)) (fun _ hk => hk.2) (.slice Ao52 t348.length co52)) (fun _ hk => hk.2) (.slice Ao56 t351.length co56)) (fun _ hk => hk.2) (.slice Ao57 t354.length co57)) (fun _ h_ => h_.1))))) (below_size (by repeat (first | (with_reducible first | exact HB.out | apply below_alloc | apply pw_below_drewN | apply below_drew1 | refine below_set ?_ GE324.out | refine below_set ?_ GE325.out | refine below_set ?_ GE357.out) | exact HB.out)))); replace HO330 := Aside0.mk (Kd.S_mono (Kd.S_told (Kd.S_told (Kd.S_old (by (with_reducible repeat (first | apply Kd.S_alloc | apply Kd.S_drewN | apply Kd.S_drew)); exact (Kd.S_mono (Kd.S_far (p := ⟨gb357, 2, none⟩) (Kd.S_far (p := ⟨gb357, 1, none⟩) (Kd.S_far (p := ⟨gb357, 0, none⟩) (Kd.S_types HO330.out BK357.out (by decide)) (fun _ hk => hk.2) (.slice Ao52 t348.length co52)) (fun _ hk => hk.2) (.slice Ao56 t351.length co56)) (fun _ hk => hk.2) (.slice Ao57 t354.length co57)) (fun _ h_ => h_.1))) hb) (Kd.R_base ho0)) (Kd.R_base ho2)) (fun _ h_ => h_.1)); replace HO333 := Aside0.mk (Kd.S_elder' (by (with_reducible repeat (first | apply Kd.S_alloc | apply Kd.S_drewN | apply Kd.S_drew)); exact (Kd.S_mono (Kd.S_far (p := ⟨gb357, 2, none⟩) (Kd.S_far (p := ⟨gb357, 1, none⟩) (Kd.S_far (p := ⟨gb357, 0, none⟩) (Kd.S_types HO333.out BK357.out (by decide)) (fun _ hk => hk.2) (.slice Ao52 t348.length co52)) (fun _ hk => hk.2) (.slice Ao56 t351.length co56)) (fun _ hk => hk.2) (.slice Ao57 t354.length co57)) (fun _ h_ => h_.1))) (Kd.R_base ho1) hb); replace HO336 := Aside0.mk (Kd.S_elder' (by (with_reducible repeat (first | apply Kd.S_alloc | apply Kd.S_drewN | apply Kd.S_drew)); exact (Kd.S_mono (Kd.S_far (p := ⟨gb357, 2, none⟩) (Kd.S_far (p := ⟨gb357, 1, none⟩) (Kd.S_far (p := ⟨gb357, 0, none⟩) (Kd.S_types HO336.out BK357.out (by decide)) (fun _ hk => hk.2) (.slice Ao52 t348.length co52)) (fun _ hk => hk.2) (.slice Ao56 t351.length co56)) (fun _ hk => hk.2) (.slice Ao57 t354.length co57)) (fun _ h_ => h_.1))) (Kd.R_base ho1) hb); replace HO339 := Aside0.mk (Kd.R_mono (Kd.R_told (Kd.R_told (Kd.R_old (by (with_reducible repeat (first | apply Kd.R_alloc | apply Kd.R_drewN | apply Kd.R_drew)); exact (Kd.R_mono (Kd.R_far (p := ⟨gb357, 2, none⟩) (Kd.R_far (p := ⟨gb357, 1, none⟩) (Kd.R_far (p := ⟨gb357, 0, none⟩) (Kd.R_types HO339.out BK357.out (by decide)) (fun _ hk => hk.2) (.slice Ao52 t348.length co52)) (fun _ hk => hk.2) (.slice Ao56 t351.length co56)) (fun _ hk => hk.2) (.slice Ao57 t354.length co57)) (fun _ h_ => h_.1))) hb) (Kd.R_base ho0)) (Kd.R_base ho2)) (fun _ h_ => h_.1)); replace HO342 := Aside0.mk (Kd.R_elder' (by (with_reducible repeat (first | apply Kd.R_alloc | apply Kd.R_drewN | apply Kd.R_drew)); exact (Kd.R_mono (Kd.R_far (p := ⟨gb357, 2, none⟩) (Kd.R_far (p := ⟨gb357, 1, none⟩) (Kd.R_far (p := ⟨gb357, 0, none⟩) (Kd.R_types HO342.out BK357.out (by decide)) (fun _ hk => hk.2) (.slice Ao52 t348.length co52)) (fun _ hk => hk.2) (.slice Ao56 t351.length co56)) (fun _ hk => hk.2) (.slice Ao57 t354.length co57)) (fun _ h_ => h_.1))) (Kd.R_base ho1) hb); replace HO345 := Aside0.mk (Kd.R_mono (Kd.R_told (Kd.R_told (Kd.R_old (by (with_reducible repeat (first | apply Kd.R_alloc | apply Kd.R_drewN | apply Kd.R_drew)); exact (Kd.R_mono (Kd.R_far (p := ⟨gb357, 2, none⟩) (Kd.R_far (p := ⟨gb357, 1, none⟩) (Kd.R_far (p := ⟨gb357, 0, none⟩) (Kd.R_types HO345.out BK357.out (by decide)) (fun _ hk => hk.2) (.slice Ao52 t348.length co52)) (fun _ hk => hk.2) (.slice Ao56 t351.length co56)) (fun _ hk => hk.2) (.slice Ao57 t354.length co57)) (fun _ h_ => h_.1))) hb) (Kd.R_base ho0)) (Kd.R_base ho2)) (fun _ h_ => h_.1)); replace HO350 := Aside0.mk (Kd.S_mono (Kd.S_told (Kd.S_told (Kd.S_old (by (with_reducible repeat (first | apply Kd.S_alloc | apply Kd.S_drewN | apply Kd.S_drew)); exact (Kd.S_mono (Kd.S_far (p := ⟨gb357, 2, none⟩) (Kd.S_far (p := ⟨gb357, 1, none⟩) (Kd.S_far (p := ⟨gb357, 0, none⟩) (Kd.S_types HO350.out BK357.out (by decide)) (fun _ hk => hk.2) (.slice Ao52 t348.length co52)) (fun _ hk => hk.2) (.slice Ao56 t351.length co56)) (fun _ hk => hk.2) (.slice Ao57 t354.length co57)) (fun _ h_ => h_.1))) hb) (Kd.R_base ho0)) (Kd.R_base ho2)) (fun _ h_ => h_.1)); replace HO353 := Aside0.mk (Kd.S_elder' (by (with_reducible repeat (first | apply Kd.S_alloc | apply Kd.S_drewN | apply Kd.S_drew)); exact (Kd.S_mono (Kd.S_far (p := ⟨gb357, 2, none⟩) (Kd.S_far (p := ⟨gb357, 1, none⟩) (Kd.S_far (p := ⟨gb357, 0, none⟩) (Kd.S_types HO353.out BK357.out (by decide)) (fun _ hk => hk.2) (.slice Ao52 t348.length co52)) (fun _ hk => hk.2) (.slice Ao56 t351.length co56)) (fun _ hk => hk.2) (.slice Ao57 t354.length co57)) (fun _ h_ => h_.1))) (Kd.R_base ho1) hb); replace HO356 := Aside0.mk (Kd.S_elder' (by (with_reducible repeat (first | apply Kd.S_alloc | apply Kd.S_drewN | apply Kd.S_drew)); exact (Kd.S_mono (Kd.S_far (p := ⟨gb357, 2, none⟩) (Kd.S_far (p := ⟨gb357, 1, none⟩) (Kd.S_far (p := ⟨gb357, 0, none⟩) (Kd.S_types HO356.out BK357.out (by decide)) (fun _ hk => hk.2) (.slice Ao52 t348.length co52)) (fun _ hk => hk.2) (.slice Ao56 t351.length co56)) (fun _ hk => hk.2) (.slice Ao57 t354.length co57)) (fun _ h_ => h_.1))) (Kd.R_base ho1) hb); replace BK324 := Aside0.mk (blk_below (g := gb324) (o := .cells #[.slice A0_0 l0_0.length c0_0, .slice A0_1 l0_1.length c0_1, .slice A0_2 l0_2.length c0_2] 26 (0, 0)) (by (with_reducible repeat (first | refine blk_drewN ?_ _ | refine blk_drew ?_ | refine blk_alloc ?_ _)); refine blk_far ?_ NB324_357.out _; (with_reducible repeat (first | refine blk_drewN ?_ _ | refine blk_drew ?_ | refine blk_alloc ?_ _)); refine blk_far ?_ NB324_357.out _; (with_reducible repeat (first | refine blk_drewN ?_ _ | refine blk_drew ?_ | refine blk_alloc ?_ _)); refine blk_far ?_ NB324_357.out _; (with_reducible repeat (first | refine blk_drewN ?_ _ | refine blk_drew ?_ | refine blk_alloc ?_ _)); exact BK324.out) hb); replace BK325 := Aside0.mk (blk_below (g := gb325) (o := .cells #[.slice A1_0 l1_0.length c1_0, .slice A1_1 l1_1.length c1_1, .slice A1_2 l1_2.length c1_2, .int .i64 a1_3] 32 (0, 0)) (by (with_reducible repeat (first | refine blk_drewN ?_ _ | refine blk_drew ?_ | refine blk_alloc ?_ _)); refine blk_far ?_ NB325_357.out _; (with_reducible repeat (first | refine blk_drewN ?_ _ | refine blk_drew ?_ | refine blk_alloc ?_ _)); refine blk_far ?_ NB325_357.out _; (with_reducible repeat (first | refine blk_drewN ?_ _ | refine blk_drew ?_ | refine blk_alloc ?_ _)); refine blk_far ?_ NB325_357.out _; (with_reducible repeat (first | refine blk_drewN ?_ _ | refine blk_drew ?_ | refine blk_alloc ?_ _)); exact BK325.out) hb); replace BK357 := Aside0.mk (blk_below (g := gb357) (o := .cells #[.slice Ao52 t348.length co52, .slice Ao56 t351.length co56, .slice Ao57 t354.length co57] 40 (0, 0)) (by (with_reducible repeat (first | refine blk_drewN ?_ _ | refine blk_drew ?_ | refine blk_alloc ?_ _)); refine blk_put (cs := #[.slice Ao52 t348.length co52, .slice Ao56 t351.length co56, .slice none 0 0]) ?_ 2 _ rfl; (with_reducible repeat (first | refine blk_drewN ?_ _ | refine blk_drew ?_ | refine blk_alloc ?_ _)); refine blk_put (cs := #[.slice Ao52 t348.length co52, .slice none 0 0, .slice none 0 0]) ?_ 1 _ rfl; (with_reducible repeat (first | refine blk_drewN ?_ _ | refine blk_drew ?_ | refine blk_alloc ?_ _)); refine blk_put (cs := #[.slice none 0 0, .slice none 0 0, .slice none 0 0]) ?_ 0 _ rfl; (with_reducible repeat (first | refine blk_drewN ?_ _ | refine blk_drew ?_ | refine blk_alloc ?_ _)); exact BK357.out) hb); replace HB := Hs_ HB hb; (try clear hb); (try clear hb2); (try clear hk); (try clear hi); (try clear ho0); (try clear ho1); (try clear ho2)) | ((with_reducible refine gate_dst (N := 8) rfl ?_); refine box_event ?hg (N := 8) ?hd (cs := #[.slice none 0 0, .slice none 0 0, .slice none 0 0, .int .i64 0]) (t := 44) ?hr ?_; (case hd => rfl); (case hg => rfl); (case hr => first | (go_simp; done) | (go_simp; rfl)); intro gb368 hg w60 hbox hb; have BK368 := Aside0.mk (hbox); have GW368 := Hg_ HB hg; have GE368 := GW368; have NB324_368 := Bl_ BK324 hg; have NB368_324 := Bm_ NB324_368; have NB325_368 := Bl_ BK325 hg; have NB368_325 := Bm_ NB325_368; have NB357_368 := Bl_ BK357 hg; have NB368_357 := Bm_ NB357_368; replace HO330 := Sb_ HO330 hb; replace HO333 := Sb_ HO333 hb; replace HO336 := Sb_ HO336 hb; replace HO339 := Rb_ HO339 hb; replace HO342 := Rb_ HO342 hb; replace HO345 := Rb_ HO345 hb; replace HO350 := Sb_ HO350 hb; replace HO353 := Sb_ HO353 hb; replace HO356 := Sb_ HO356 hb; replace HO360 := Rb_ HO360 hb; replace HO363 := Rb_ HO363 hb; replace HO366 := Rb_ HO366 hb; replace BK324 := Bb_ BK324 hb; replace BK325 := Bb_ BK325 hb; replace BK357 := Bb_ BK357 hb; replace HB := Hs_ HB hb; clear hb hbox hg; obtain ⟨Ao61, co61, eo61⟩ := Kd.R_slice HO360.out; subst eo61; have hnb62 := NB368_324.out; have hnc62 := NB324_368.out; have hnb63 := NB368_325.out; have hnc63 := NB325_368.out; have hnb64 := NB368_357.out; have hnc64 := NB357_368.out; obtain ⟨hcz65_0, hcz65_1, hcz65_2, hcz65_3, hfz65_0, hfz65_1, hfz65_2, hfz65_3⟩ := Bc4_ BK368; obtain ⟨Ao66, co66, eo66⟩ := Kd.R_slice HO363.out; subst eo66; obtain ⟨Ao67, co67, eo67⟩ := Kd.R_slice HO366.out; subst eo67; obtain ⟨hcz68_0, hcz68_1, hcz68_2, hfz68_0, hfz68_1, hfz68_2⟩ := Bc3_ BK357) | ((with_reducible refine gate_callee (f := 18) rfl ?_); refine goesL_ (some 31) rfl rfl Try.func18 (by kernel_rfl) rfl #[.agg #[.slice Ao52 t348.length co52, .slice Ao56 t351.length co56, .slice Ao57 t354.length co57], .agg #[.slice Ao61 t358.length co61, .slice Ao66 t361.length co66, .slice Ao67 t364.length co67, .int .i64 t367]] rfl Mp_ ?_; (with_reducible refine (impl_StateOf.calls _ _ t348 _ _ t351 _ _ t354 _ _ t358 _ _ t361 _ _ t364 t367 t369 _ ?side1 ?side2 ?side3 ?side4 ?side5 ?side6 ?side7 ?side8 ?side9 ?side10 ?side11 ?side12 A24.out).mono ?_); (case side1 => refine (Kd.S_reads' (e := 77) (base := w.heap.size) (ok := fun k_ => (((((True ∧ some k_ ≠ (.slice Ao42 t328.length co42 : Value).ownBlock) ∧ some k_ ≠ (.slice Ao45 t337.length co45 : Value).ownBlock) ∧ some k_ ≠ (.slice Ao47 t343.length co47 : Value).ownBlock) ∧ some k_ ≠ (.slice Ao61 t358.length co61 : Value).ownBlock) ∧ some k_ ≠ (.slice Ao67 t364.length co67 : Value).ownBlock)) (n := t348.length) (c := co52) ?_).2.2; exact (by (with_reducible repeat (first | apply Kd.S_alloc | apply Kd.S_drewN | apply Kd.S_drew)); exact (Kd.S_mono (Kd.S_far (p := ⟨gb368, 3, none⟩) (Kd.S_far (p := ⟨gb368, 2, none⟩) (Kd.S_far (p := ⟨gb368, 1, none⟩) (Kd.S_far (p := ⟨gb368, 0, none⟩) (Kd.S_types HO350.out BK368.out (by decide)) (fun _ hk => hk.2) (.slice Ao61 t358.length co61)) (fun _ hk => hk.2) (.slice Ao66 t361.length co66)) (fun _ hk => hk.2) (.slice Ao67 t364.length co67)) (fun _ hk => hk.2) (.int .i64 t367)) (fun _ h_ => h_.1)))); (case side2 => exact (Kd.S_reads' HO350.out).2.1); (case side3 => refine (Kd.S_reads' (e := 106) (base := w.heap.size) (ok := fun k_ => (((True ∧ some k_ ≠ (.slice Ao43 t331.length co43 : Value).ownBlock) ∧ some k_ ≠ (.slice Ao46 t340.length co46 : Value).ownBlock) ∧ some k_ ≠ (.slice Ao66 t361.length co66 : Value).ownBlock)) (n := t351.length) (c := co56) ?_).2.2; exact (by (with_reducible repeat (first | apply Kd.S_alloc | apply Kd.S_drewN | apply Kd.S_drew)); exact (Kd.S_mono (Kd.S_far (p := ⟨gb368, 3, none⟩) (Kd.S_far (p := ⟨gb368, 2, none⟩) (Kd.S_far (p := ⟨gb368, 1, none⟩) (Kd.S_far (p := ⟨gb368, 0, none⟩) (Kd.S_types HO353.out BK368.out (by decide)) (fun _ hk => hk.2) (.slice Ao61 t358.length co61)) (fun _ hk => hk.2) (.slice Ao66 t361.length co66)) (fun _ hk => hk.2) (.slice Ao67 t364.length co67)) (fun _ hk => hk.2) (.int .i64 t367)) (fun _ h_ => h_.1)))); (case side4 => exact (Kd.S_reads' HO353.out).2.1); (case side5 => refine (Kd.S_reads' (e := 103) (base := w.heap.size) (ok := fun k_ => (((True ∧ some k_ ≠ (.slice Ao44 t334.length co44 : Value).ownBlock) ∧ some k_ ≠ (.slice Ao46 t340.length co46 : Value).ownBlock) ∧ some k_ ≠ (.slice Ao66 t361.length co66 : Value).ownBlock)) (n := t354.length) (c := co57) ?_).2.2; exact (by (with_reducible repeat (first | apply Kd.S_alloc | apply Kd.S_drewN | apply Kd.S_drew)); exact (Kd.S_mono (Kd.S_far (p := ⟨gb368, 3, none⟩) (Kd.S_far (p := ⟨gb368, 2, none⟩) (Kd.S_far (p := ⟨gb368, 1, none⟩) (Kd.S_far (p := ⟨gb368, 0, none⟩) (Kd.S_types HO356.out BK368.out (by decide)) (fun _ hk => hk.2) (.slice Ao61 t358.length co61)) (fun _ hk => hk.2) (.slice Ao66 t361.length co66)) (fun _ hk => hk.2) (.slice Ao67 t364.length co67)) (fun _ hk => hk.2) (.int .i64 t367)) (fun _ h_ => h_.1)))); (case side6 => exact (Kd.S_reads' HO356.out).2.1); (case side7 => refine (Kd.R_reads' (e := 3) (base := w.heap.size) (ok := fun k_ => ((some k_ ≠ (.slice Ao67 t364.length co67 : Value).ownBlock ∧ some k_ ≠ (.slice Ao45 t337.length co45 : Value).ownBlock) ∧ some k_ ≠ (.slice Ao47 t343.length co47 : Value).ownBlock)) (n := t358.length) (c := co61) ?_).2.2; exact (by (with_reducible repeat (first | apply Kd.R_alloc | apply Kd.R_drewN | apply Kd.R_drew)); exact (Kd.R_mono (Kd.R_far (p := ⟨gb368, 3, none⟩) (Kd.R_far (p := ⟨gb368, 2, none⟩) (Kd.R_far (p := ⟨gb368, 1, none⟩) (Kd.R_far (p := ⟨gb368, 0, none⟩) (Kd.R_types HO360.out BK368.out (by decide)) (fun _ hk => hk.2) (.slice Ao61 t358.length co61)) (fun _ hk => hk.2) (.slice Ao66 t361.length co66)) (fun _ hk => hk.2) (.slice Ao67 t364.length co67)) (fun _ hk => hk.2) (.int .i64 t367)) (fun _ h_ => h_.1)))); (case side8 => exact (Kd.R_reads' HO360.out).2.1); (case side9 => refine (Kd.R_reads' (e := 9) (base := w.heap.size) (ok := fun k_ => (True ∧ some k_ ≠ (.slice Ao46 t340.length co46 : Value).ownBlock)) (n := t361.length) (c := co66) ?_).2.2; exact (by (with_reducible repeat (first | apply Kd.R_alloc | apply Kd.R_drewN | apply Kd.R_drew)); exact (Kd.R_mono (Kd.R_far (p := ⟨gb368, 3, none⟩) (Kd.R_far (p := ⟨gb368, 2, none⟩) (Kd.R_far (p := ⟨gb368, 1, none⟩) (Kd.R_far (p := ⟨gb368, 0, none⟩) (Kd.R_types HO363.out BK368.out (by decide)) (fun _ hk => hk.2) (.slice Ao61 t358.length co61)) (fun _ hk => hk.2) (.slice Ao66 t361.length co66)) (fun _ hk => hk.2) (.slice Ao67 t364.length co67)) (fun _ hk => hk.2) (.int .i64 t367)) (fun _ h_ => h_.1)))); (case side10 => exact (Kd.R_reads' HO363.out).2.1); (case side11 => refine (Kd.R_reads' (e := 3) (base := w.heap.size) (ok := fun k_ => ((some k_ ≠ (.slice Ao61 t358.length co61 : Value).ownBlock ∧ some k_ ≠ (.slice Ao45 t337.length co45 : Value).ownBlock) ∧ some k_ ≠ (.slice Ao47 t343.length co47 : Value).ownBlock)) (n := t364.length) (c := co67) ?_).2.2; exact (by (with_reducible repeat (first | apply Kd.R_alloc | apply Kd.R_drewN | apply Kd.R_drew)); exact (Kd.R_mono (Kd.R_far (p := ⟨gb368, 3, none⟩) (Kd.R_far (p := ⟨gb368, 2, none⟩) (Kd.R_far (p := ⟨gb368, 1, none⟩) (Kd.R_far (p := ⟨gb368, 0, none⟩) (Kd.R_types HO366.out BK368.out (by decide)) (fun _ hk => hk.2) (.slice Ao61 t358.length co61)) (fun _ hk => hk.2) (.slice Ao66 t361.length co66)) (fun _ hk => hk.2) (.slice Ao67 t364.length co67)) (fun _ hk => hk.2) (.int .i64 t367)) (fun _ h_ => h_.1)))); (case side12 => exact (Kd.R_reads' HO366.out).2.1); rintro e w69 ⟨rfl, hb⟩; refine ⟨_, rfl, ?_⟩; replace HO330 := Aside0.mk (Kd.S_below (by (with_reducible repeat (first | apply Kd.S_alloc | apply Kd.S_drewN | apply Kd.S_drew)); exact (Kd.S_mono (Kd.S_far (p := ⟨gb368, 3, none⟩) (Kd.S_far (p := ⟨gb368, 2, none⟩) (Kd.S_far (p := ⟨gb368, 1, none⟩) (Kd.S_far (p := ⟨gb368, 0, none⟩) (Kd.S_types HO330.out BK368.out (by decide)) (fun _ hk => hk.2) (.slice Ao61 t358.length co61)) (fun _ hk => hk.2) (.slice Ao66 t361.length co66)) (fun _ hk => hk.2) (.slice Ao67 t364.length co67)) (fun _ hk => hk.2) (.int .i64 t367)) (fun _ h_ => h_.1))) hb); replace HO333 := Aside0.mk (Kd.S_below (by (with_reducible repeat (first | apply Kd.S_alloc | apply Kd.S_drewN | apply Kd.S_drew)); exact (Kd.S_mono (Kd.S_far (p := ⟨gb368, 3, none⟩) (Kd.S_far (p := ⟨gb368, 2, none⟩) (Kd.S_far (p := ⟨gb368, 1, none⟩) (Kd.S_far (p := ⟨gb368, 0, none⟩) (Kd.S_types HO333.out BK368.out (by decide)) (fun _ hk => hk.2) (.slice Ao61 t358.length co61)) (fun _ hk => hk.2) (.slice Ao66 t361.length co66)) (fun _ hk => hk.2) (.slice Ao67 t364.length co67)) (fun _ hk => hk.2) (.int .i64 t367)) (fun _ h_ => h_.1))) hb); replace HO336 := Aside0.mk (Kd.S_below (by (with_reducible repeat (first | apply Kd.S_alloc | apply Kd.S_drewN | apply Kd.S_drew)); exact (Kd.S_mono (Kd.S_far (p := ⟨gb368, 3, none⟩) (Kd.S_far (p := ⟨gb368, 2, none⟩) (Kd.S_far (p := ⟨gb368, 1, none⟩) (Kd.S_far (p := ⟨gb368, 0, none⟩) (Kd.S_types HO336.out BK368.out (by decide)) (fun _ hk => hk.2) (.slice Ao61 t358.length co61)) (fun _ hk => hk.2) (.slice Ao66 t361.length co66)) (fun _ hk => hk.2) (.slice Ao67 t364.length co67)) (fun _ hk => hk.2) (.int .i64 t367)) (fun _ h_ => h_.1))) hb); replace HO339 := Aside0.mk (Kd.R_below (by (with_reducible repeat (first | apply Kd.R_alloc | apply Kd.R_drewN | apply Kd.R_drew)); exact (Kd.R_mono (Kd.R_far (p := ⟨gb368, 3, none⟩) (Kd.R_far (p := ⟨gb368, 2, none⟩) (Kd.R_far (p := ⟨gb368, 1, none⟩) (Kd.R_far (p := ⟨gb368, 0, none⟩) (Kd.R_types HO339.out BK368.out (by decide)) (fun _ hk => hk.2) (.slice Ao61 t358.length co61)) (fun _ hk => hk.2) (.slice Ao66 t361.length co66)) (fun _ hk => hk.2) (.slice Ao67 t364.length co67)) (fun _ hk => hk.2) (.int .i64 t367)) (fun _ h_ => h_.1))) hb); replace HO342 := Aside0.mk (Kd.R_below (by (with_reducible repeat (first | apply Kd.R_alloc | apply Kd.R_drewN | apply Kd.R_drew)); exact (Kd.R_mono (Kd.R_far (p := ⟨gb368, 3, none⟩) (Kd.R_far (p := ⟨gb368, 2, none⟩) (Kd.R_far (p := ⟨gb368, 1, none⟩) (Kd.R_far (p := ⟨gb368, 0, none⟩) (Kd.R_types HO342.out BK368.out (by decide)) (fun _ hk => hk.2) (.slice Ao61 t358.length co61)) (fun _ hk => hk.2) (.slice Ao66 t361.length co66)) (fun _ hk => hk.2) (.slice Ao67 t364.length co67)) (fun _ hk => hk.2) (.int .i64 t367)) (fun _ h_ => h_.1))) hb); replace HO345 := Aside0.mk (Kd.R_below (by (with_reducible repeat (first | apply Kd.R_alloc | apply Kd.R_drewN | apply Kd.R_drew)); exact (Kd.R_mono (Kd.R_far (p := ⟨gb368, 3, none⟩) (Kd.R_far (p := ⟨gb368, 2, none⟩) (Kd.R_far (p := ⟨gb368, 1, none⟩) (Kd.R_far (p := ⟨gb368, 0, none⟩) (Kd.R_types HO345.out BK368.out (by decide)) (fun _ hk => hk.2) (.slice Ao61 t358.length co61)) (fun _ hk => hk.2) (.slice Ao66 t361.length co66)) (fun _ hk => hk.2) (.slice Ao67 t364.length co67)) (fun _ hk => hk.2) (.int .i64 t367)) (fun _ h_ => h_.1))) hb); replace HO350 := Aside0.mk (Kd.S_below (by (with_reducible repeat (first | apply Kd.S_alloc | apply Kd.S_drewN | apply Kd.S_drew)); exact (Kd.S_mono (Kd.S_far (p := ⟨gb368, 3, none⟩) (Kd.S_far (p := ⟨gb368, 2, none⟩) (Kd.S_far (p := ⟨gb368, 1, none⟩) (Kd.S_far (p := ⟨gb368, 0, none⟩) (Kd.S_types HO350.out BK368.out (by decide)) (fun _ hk => hk.2) (.slice Ao61 t358.length co61)) (fun _ hk => hk.2) (.slice Ao66 t361.length co66)) (fun _ hk => hk.2) (.slice Ao67 t364.length co67)) (fun _ hk => hk.2) (.int .i64 t367)) (fun _ h_ => h_.1))) hb); replace HO353 := Aside0.mk (Kd.S_below (by (with_reducible repeat (first | apply Kd.S_alloc | apply Kd.S_drewN | apply Kd.S_drew)); exact (Kd.S_mono (Kd.S_far (p := ⟨gb368, 3, none⟩) (Kd.S_far (p := ⟨gb368, 2, none⟩) (Kd.S_far (p := ⟨gb368, 1, none⟩) (Kd.S_far (p := ⟨gb368, 0, none⟩) (Kd.S_types HO353.out BK368.out (by decide)) (fun _ hk => hk.2) (.slice Ao61 t358.length co61)) (fun _ hk => hk.2) (.slice Ao66 t361.length co66)) (fun _ hk => hk.2) (.slice Ao67 t364.length co67)) (fun _ hk => hk.2) (.int .i64 t367)) (fun _ h_ => h_.1))) hb); replace HO356 := Aside0.mk (Kd.S_below (by (with_reducible repeat (first | apply Kd.S_alloc | apply Kd.S_drewN | apply Kd.S_drew)); exact (Kd.S_mono (Kd.S_far (p := ⟨gb368, 3, none⟩) (Kd.S_far (p := ⟨gb368, 2, none⟩) (Kd.S_far (p := ⟨gb368, 1, none⟩) (Kd.S_far (p := ⟨gb368, 0, none⟩) (Kd.S_types HO356.out BK368.out (by decide)) (fun _ hk => hk.2) (.slice Ao61 t358.length co61)) (fun _ hk => hk.2) (.slice Ao66 t361.length co66)) (fun _ hk => hk.2) (.slice Ao67 t364.length co67)) (fun _ hk => hk.2) (.int .i64 t367)) (fun _ h_ => h_.1))) hb); replace HO360 := Aside0.mk (Kd.R_below (by (with_reducible repeat (first | apply Kd.R_alloc | apply Kd.R_drewN | apply Kd.R_drew)); exact (Kd.R_mono (Kd.R_far (p := ⟨gb368, 3, none⟩) (Kd.R_far (p := ⟨gb368, 2, none⟩) (Kd.R_far (p := ⟨gb368, 1, none⟩) (Kd.R_far (p := ⟨gb368, 0, none⟩) (Kd.R_types HO360.out BK368.out (by decide)) (fun _ hk => hk.2) (.slice Ao61 t358.length co61)) (fun _ hk => hk.2) (.slice Ao66 t361.length co66)) (fun _ hk => hk.2) (.slice Ao67 t364.length co67)) (fun _ hk => hk.2) (.int .i64 t367)) (fun _ h_ => h_.1))) hb); replace HO363 := Aside0.mk (Kd.R_below (by (with_reducible repeat (first | apply Kd.R_alloc | apply Kd.R_drewN | apply Kd.R_drew)); exact (Kd.R_mono (Kd.R_far (p := ⟨gb368, 3, none⟩) (Kd.R_far (p := ⟨gb368, 2, none⟩) (Kd.R_far (p := ⟨gb368, 1, none⟩) (Kd.R_far (p := ⟨gb368, 0, none⟩) (Kd.R_types HO363.out BK368.out (by decide)) (fun _ hk => hk.2) (.slice Ao61 t358.length co61)) (fun _ hk => hk.2) (.slice Ao66 t361.length co66)) (fun _ hk => hk.2) (.slice Ao67 t364.length co67)) (fun _ hk => hk.2) (.int .i64 t367)) (fun _ h_ => h_.1))) hb); replace HO366 := Aside0.mk (Kd.R_below (by (with_reducible repeat (first | apply Kd.R_alloc | apply Kd.R_drewN | apply Kd.R_drew)); exact (Kd.R_mono (Kd.R_far (p := ⟨gb368, 3, none⟩) (Kd.R_far (p := ⟨gb368, 2, none⟩) (Kd.R_far (p := ⟨gb368, 1, none⟩) (Kd.R_far (p := ⟨gb368, 0, none⟩) (Kd.R_types HO366.out BK368.out (by decide)) (fun _ hk => hk.2) (.slice Ao61 t358.length co61)) (fun _ hk => hk.2) (.slice Ao66 t361.length co66)) (fun _ hk => hk.2) (.slice Ao67 t364.length co67)) (fun _ hk => hk.2) (.int .i64 t367)) (fun _ h_ => h_.1))) hb); replace BK324 := Aside0.mk (blk_below (g := gb324) (o := .cells #[.slice A0_0 l0_0.length c0_0, .slice A0_1 l0_1.length c0_1, .slice A0_2 l0_2.length c0_2] 26 (0, 0)) (by (with_reducible repeat (first | refine blk_drewN ?_ _ | refine blk_drew ?_ | refine blk_alloc ?_ _)); refine blk_far ?_ NB324_368.out _; (with_reducible repeat (first | refine blk_drewN ?_ _ | refine blk_drew ?_ | refine blk_alloc ?_ _)); refine blk_far ?_ NB324_368.out _; (with_reducible repeat (first | refine blk_drewN ?_ _ | refine blk_drew ?_ | refine blk_alloc ?_ _)); refine blk_far ?_ NB324_368.out _; (with_reducible repeat (first | refine blk_drewN ?_ _ | refine blk_drew ?_ | refine blk_alloc ?_ _)); refine blk_far ?_ NB324_368.out _; (with_reducible repeat (first | refine blk_drewN ?_ _ | refine blk_drew ?_ | refine blk_alloc ?_ _)); exact BK324.out) hb); replace BK325 := Aside0.mk (blk_below (g := gb325) (o := .cells #[.slice A1_0 l1_0.length c1_0, .slice A1_1 l1_1.length c1_1, .slice A1_2 l1_2.length c1_2, .int .i64 a1_3] 32 (0, 0)) (by (with_reducible repeat (first | refine blk_drewN ?_ _ | refine blk_drew ?_ | refine blk_alloc ?_ _)); refine blk_far ?_ NB325_368.out _; (with_reducible repeat (first | refine blk_drewN ?_ _ | refine blk_drew ?_ | refine blk_alloc ?_ _)); refine blk_far ?_ NB325_368.out _; (with_reducible repeat (first | refine blk_drewN ?_ _ | refine blk_drew ?_ | refine blk_alloc ?_ _)); refine blk_far ?_ NB325_368.out _; (with_reducible repeat (first | refine blk_drewN ?_ _ | refine blk_drew ?_ | refine blk_alloc ?_ _)); refine blk_far ?_ NB325_368.out _; (with_reducible repeat (first | refine blk_drewN ?_ _ | refine blk_drew ?_ | refine blk_alloc ?_ _)); exact BK325.out) hb); replace BK357 := Aside0.mk (blk_below (g := gb357) (o := .cells #[.slice Ao52 t348.length co52, .slice Ao56 t351.length co56, .slice Ao57 t354.length co57] 40 (0, 0)) (by (with_reducible repeat (first | refine blk_drewN ?_ _ | refine blk_drew ?_ | refine blk_alloc ?_ _)); refine blk_far ?_ NB357_368.out _; (with_reducible repeat (first | refine blk_drewN ?_ _ | refine blk_drew ?_ | refine blk_alloc ?_ _)); refine blk_far ?_ NB357_368.out _; (with_reducible repeat (first | refine blk_drewN ?_ _ | refine blk_drew ?_ | refine blk_alloc ?_ _)); refine blk_far ?_ NB357_368.out _; (with_reducible repeat (first | refine blk_drewN ?_ _ | refine blk_drew ?_ | refine blk_alloc ?_ _)); refine blk_far ?_ NB357_368.out _; (with_reducible repeat (first | refine blk_drewN ?_ _ | refine blk_drew ?_ | refine blk_alloc ?_ _)); exact BK357.out) hb); replace BK368 := Aside0.mk (blk_below (g := gb368) (o := .cells #[.slice Ao61 t358.length co61, .slice Ao66 t361.length co66, .slice Ao67 t364.length co67, .int .i64 t367] 44 (0, 0)) (by (with_reducible repeat (first | refine blk_drewN ?_ _ | refine blk_drew ?_ | refine blk_alloc ?_ _)); refine blk_put (cs := #[.slice Ao61 t358.length co61, .slice Ao66 t361.length co66, .slice Ao67 t364.length co67, .int .i64 0]) ?_ 3 _ rfl; (with_reducible repeat (first | refine blk_drewN ?_ _ | refine blk_drew ?_ | refine blk_alloc ?_ _)); refine blk_put (cs := #[.slice Ao61 t358.length co61, .slice Ao66 t361.length co66, .slice none 0 0, .int .i64 0]) ?_ 2 _ rfl; (with_reducible repeat (first | refine blk_drewN ?_ _ | refine blk_drew ?_ | refine blk_alloc ?_ _)); refine blk_put (cs := #[.slice Ao61 t358.length co61, .slice none 0 0, .slice none 0 0, .int .i64 0]) ?_ 1 _ rfl; (with_reducible repeat (first | refine blk_drewN ?_ _ | refine blk_drew ?_ | refine blk_alloc ?_ _)); refine blk_put (cs := #[.slice none 0 0, .slice none 0 0, .slice none 0 0, .int .i64 0]) ?_ 0 _ rfl; (with_reducible repeat (first | refine blk_drewN ?_ _ | refine blk_drew ?_ | refine blk_alloc ?_ _)); exact BK368.out) hb); replace HB := Hs_ HB hb; (try clear hb); (try clear hb2); (try clear hk); (try clear hi)))
            have n0_ := Aside0.mk (Kd.S_drew HO330.out)
            have n1_ := Aside0.mk (Kd.S_drew HO333.out)
            have n2_ := Aside0.mk (Kd.S_drew HO336.out)
            have n3_ := Aside0.mk (Kd.R_drew HO339.out)
            have n4_ := Aside0.mk (Kd.R_drew HO342.out)
            have n5_ := Aside0.mk (Kd.R_drew HO345.out)
            have n6_ := Aside0.mk (Kd.S_drew HO350.out)
            have n7_ := Aside0.mk (Kd.S_drew HO353.out)
            have n8_ := Aside0.mk (Kd.S_drew HO356.out)
            have n9_ := Aside0.mk (Kd.R_drew HO360.out)
            have n10_ := Aside0.mk (Kd.R_drew HO363.out)
            have n11_ := Aside0.mk (Kd.R_drew HO366.out)
            have n12_ := Aside0.mk (blk_drew BK324.out)
            have n13_ := Aside0.mk (blk_drew BK325.out)
            have n14_ := Aside0.mk (blk_drew BK357.out)
            have n15_ := Aside0.mk (blk_drew BK368.out)
            have n16_ := Aside0.mk (below_drew1 HB.out)
            clear HO330
            clear HO333
            clear HO336
            clear HO339
            clear HO342
            clear HO345
            clear HO350
            clear HO353
            clear HO356
            clear HO360
            clear HO363
            clear HO366
            clear BK324
            clear BK325
            clear BK357
            clear BK368
            clear HB
            have HO330 := n0_
            have HO333 := n1_
            have HO336 := n2_
            have HO339 := n3_
            have HO342 := n4_
            have HO345 := n5_
            have HO350 := n6_
            have HO353 := n7_
            have HO356 := n8_
            have HO360 := n9_
            have HO363 := n10_
            have HO366 := n11_
            have BK324 := n12_
            have BK325 := n13_
            have BK357 := n14_
            have BK368 := n15_
            have HB := n16_
            clear n0_ n1_ n2_ n3_ n4_ n5_ n6_ n7_ n8_ n9_ n10_ n11_ n12_ n13_ n14_ n15_ n16_
            refine start_ (n := 5) (S := fun w' => w'.cell? ⟨gb357, 0, none⟩ = some (.slice Ao52 t348.length co52) ∧ w'.cell? ⟨gb357, 1, none⟩ = some (.slice Ao56 t351.length co56) ∧ w'.cell? ⟨gb357, 2, none⟩ = some (.slice Ao57 t354.length co57) ∧ w'.cell? ⟨gb324, 0, none⟩ = some (.slice A0_0 l0_0.length c0_0) ∧ w'.cell? ⟨gb324, 1, none⟩ = some (.slice A0_1 l0_1.length c0_1) ∧ w'.cell? ⟨gb324, 2, none⟩ = some (.slice A0_2 l0_2.length c0_2)) (ds := []) #[false, false, false, false, false] (by kernel_rfl) rfl rfl ⟨(blk_cell BK357.out 0).trans rfl, (blk_cell BK357.out 1).trans rfl, (blk_cell BK357.out 2).trans rfl, (blk_cell BK324.out 0).trans rfl, (blk_cell BK324.out 1).trans rfl, (blk_cell BK324.out 2).trans rfl⟩ (fun hHeld => ?_)
            generalize w69.drew = w70 at HO330 HO333 HO336 HO339 HO342 HO345 HO350 HO353 HO356 HO360 HO363 HO366 BK324 BK325 BK357 BK368 HB hHeld ⊢
            refine take_ (i := 0) (N := some 35) (v := ?_) (a' := ?_) #[true, false, false, false, false] rfl rfl (by kernel_rfl) (fun _ _ _ h => h) (Or.inl ⟨by rfl, ?_⟩) hHeld ?_ ?_
            rotate_left
            · rintro w' ⟨s0, s1, s2, s3, s4, s5⟩
              go_simp
              with_reducible rfl
            rotate_left
            · simp only [Act.put, List.setIfInBounds_toArray, List.set_cons_zero, List.set_cons_succ, i64_w, i32_w]
              rfl
            refine take_ (i := 1) (N := some 36) (v := ?_) (a' := ?_) #[true, true, false, false, false] rfl rfl (by kernel_rfl) (fun _ _ _ h => h) (Or.inl ⟨by rfl, ?_⟩) hHeld ?_ ?_
            rotate_left
            · rintro w' ⟨s0, s1, s2, s3, s4, s5⟩
              go_simp
              with_reducible rfl
            rotate_left
            · simp only [Act.put, List.setIfInBounds_toArray, List.set_cons_zero, List.set_cons_succ, i64_w, i32_w]
              rfl
            refine one_ (i := 2) (N := some 37) #[true, true, true, false, false] rfl rfl (by kernel_rfl) (by decide) (fun K hK => ?_)
            refine goes_ Try.func16 (by kernel_rfl) rfl #[.agg #[.slice A0_0 l0_0.length c0_0, .slice A0_1 l0_1.length c0_1, .slice A0_2 l0_2.length c0_2]] (by rfl) rfl rfl Mp_ ?_
            with_reducible refine (laws_toProgram.calls k _ _ l0_0 _ _ l0_1 _ _ l0_2 t370 t373 t376 _ ?side1 ?side2 ?side3 ?side4 ?side5 ?side6 A26.out).mono ?_
            (case side1 => exact Sc_ HR0_0 HB)
            (case side2 => exact HC0_0.out)
            (case side3 => exact Sc_ HR0_1 HB)
            (case side4 => exact HC0_1.out)
            (case side5 => exact Sc_ HR0_2 HB)
            (case side6 => exact HC0_2.out)
            rintro e w71 ⟨v371, v374, v377, rfl, ho0, ho1, ho2, hb⟩
            refine ⟨_, rfl, ?_⟩
            have n0_ := Aside0.mk (Kd.S_elder' (by (with_reducible repeat (first | apply Kd.S_alloc | apply Kd.S_drewN | apply Kd.S_drew)); exact HO330.out) (Kd.S_base ho0) hb)
            have n1_ := Aside0.mk (Kd.S_elder' (by (with_reducible repeat (first | apply Kd.S_alloc | apply Kd.S_drewN | apply Kd.S_drew)); exact HO333.out) (Kd.S_base ho1) hb)
            have n2_ := Aside0.mk (Kd.S_elder' (by (with_reducible repeat (first | apply Kd.S_alloc | apply Kd.S_drewN | apply Kd.S_drew)); exact HO336.out) (Kd.S_base ho2) hb)
            have n3_ := Rb_ HO339 hb
            have n4_ := Rb_ HO342 hb
            have n5_ := Rb_ HO345 hb
            have n6_ := Aside0.mk (Kd.S_elder' (by (with_reducible repeat (first | apply Kd.S_alloc | apply Kd.S_drewN | apply Kd.S_drew)); exact HO350.out) (Kd.S_base ho0) hb)
            have n7_ := Aside0.mk (Kd.S_elder' (by (with_reducible repeat (first | apply Kd.S_alloc | apply Kd.S_drewN | apply Kd.S_drew)); exact HO353.out) (Kd.S_base ho1) hb)
            have n8_ := Aside0.mk (Kd.S_elder' (by (with_reducible repeat (first | apply Kd.S_alloc | apply Kd.S_drewN | apply Kd.S_drew)); exact HO356.out) (Kd.S_base ho2) hb)
            have n9_ := Rb_ HO360 hb
            have n10_ := Rb_ HO363 hb
            have n11_ := Rb_ HO366 hb
            have n12_ := Aside0.mk (Kd.S_lower (Kd.S_new' (Kd.S_new' (Kd.S_new' (Kd.S_new' (Kd.S_new' (Kd.S_new' ho0 (Kd.S_lt (by (with_reducible repeat (first | apply Kd.S_alloc | apply Kd.S_drewN | apply Kd.S_drew)); exact HO330.out))) (Kd.R_lt (by (with_reducible repeat (first | apply Kd.R_alloc | apply Kd.R_drewN | apply Kd.R_drew)); exact HO339.out))) (Kd.R_lt (by (with_reducible repeat (first | apply Kd.R_alloc | apply Kd.R_drewN | apply Kd.R_drew)); exact HO345.out))) (Kd.S_lt (by (with_reducible repeat (first | apply Kd.S_alloc | apply Kd.S_drewN | apply Kd.S_drew)); exact HO350.out))) (Kd.R_lt (by (with_reducible repeat (first | apply Kd.R_alloc | apply Kd.R_drewN | apply Kd.R_drew)); exact HO360.out))) (Kd.R_lt (by (with_reducible repeat (first | apply Kd.R_alloc | apply Kd.R_drewN | apply Kd.R_drew)); exact HO366.out))) (below_size (by repeat (first | (with_reducible first | exact HB.out | apply below_alloc | apply pw_below_drewN | apply below_drew1 | refine below_set ?_ GE324.out | refine below_set ?_ GE325.out | refine below_set ?_ GE357.out | refine below_set ?_ GE368.out) | exact HB.out))))
            have n13_ := Aside0.mk (Kd.S_lower (Kd.S_new' (Kd.S_new' (Kd.S_new' (Kd.S_new' ho1 (Kd.S_lt (by (with_reducible repeat (first | apply Kd.S_alloc | apply Kd.S_drewN | apply Kd.S_drew)); exact HO333.out))) (Kd.R_lt (by (with_reducible repeat (first | apply Kd.R_alloc | apply Kd.R_drewN | apply Kd.R_drew)); exact HO342.out))) (Kd.S_lt (by (with_reducible repeat (first | apply Kd.S_alloc | apply Kd.S_drewN | apply Kd.S_drew)); exact HO353.out))) (Kd.R_lt (by (with_reducible repeat (first | apply Kd.R_alloc | apply Kd.R_drewN | apply Kd.R_drew)); exact HO363.out))) (below_size (by repeat (first | (with_reducible first | exact HB.out | apply below_alloc | apply pw_below_drewN | apply below_drew1 | refine below_set ?_ GE324.out | refine below_set ?_ GE325.out | refine below_set ?_ GE357.out | refine below_set ?_ GE368.out) | exact HB.out))))
            have n14_ := Aside0.mk (Kd.S_lower (Kd.S_new' (Kd.S_new' (Kd.S_new' (Kd.S_new' ho2 (Kd.S_lt (by (with_reducible repeat (first | apply Kd.S_alloc | apply Kd.S_drewN | apply Kd.S_drew)); exact HO336.out))) (Kd.R_lt (by (with_reducible repeat (first | apply Kd.R_alloc | apply Kd.R_drewN | apply Kd.R_drew)); exact HO342.out))) (Kd.S_lt (by (with_reducible repeat (first | apply Kd.S_alloc | apply Kd.S_drewN | apply Kd.S_drew)); exact HO356.out))) (Kd.R_lt (by (with_reducible repeat (first | apply Kd.R_alloc | apply Kd.R_drewN | apply Kd.R_drew)); exact HO363.out))) (below_size (by repeat (first | (with_reducible first | exact HB.out | apply below_alloc | apply pw_below_drewN | apply below_drew1 | refine below_set ?_ GE324.out | refine below_set ?_ GE325.out | refine below_set ?_ GE357.out | refine below_set ?_ GE368.out) | exact HB.out))))
            have n15_ := Bb_ BK324 hb
            have n16_ := Bb_ BK325 hb
            have n17_ := Bb_ BK357 hb
            have n18_ := Bb_ BK368 hb
            have n19_ := Hs_ HB hb
            clear HO330
            clear HO333
            clear HO336
            clear HO339
            clear HO342
            clear HO345
            clear HO350
            clear HO353
            clear HO356
            clear HO360
            clear HO363
            clear HO366
            clear BK324
            clear BK325
            clear BK357
            clear BK368
            clear HB
            have HO330 := n0_
            have HO333 := n1_
            have HO336 := n2_
            have HO339 := n3_
            have HO342 := n4_
            have HO345 := n5_
            have HO350 := n6_
            have HO353 := n7_
            have HO356 := n8_
            have HO360 := n9_
            have HO363 := n10_
            have HO366 := n11_
            have HO372 := n12_
            have HO375 := n13_
            have HO378 := n14_
            have BK324 := n15_
            have BK325 := n16_
            have BK357 := n17_
            have BK368 := n18_
            have HB := n19_
            clear n0_ n1_ n2_ n3_ n4_ n5_ n6_ n7_ n8_ n9_ n10_ n11_ n12_ n13_ n14_ n15_ n16_ n17_ n18_ n19_
            (try clear hb)
            (try clear hb2)
            (try clear hk)
            (try clear hi)
            (try clear ho0)
            (try clear ho1)
            (try clear ho2)
            obtain ⟨Ao72, co72, eo72⟩ := Kd.S_slice HO372.out
            (first | subst eo72 | (injection eo72 with f1_ f2_ f3_; have f4_ := f1_.symm; have f5_ := f3_.symm; clear f1_ f2_ f3_; subst f4_; subst f5_))
            obtain ⟨Ao73, co73, eo73⟩ := Kd.S_slice HO375.out
            (first | subst eo73 | (injection eo73 with f1_ f2_ f3_; have f4_ := f1_.symm; have f5_ := f3_.symm; clear f1_ f2_ f3_; subst f4_; subst f5_))
            obtain ⟨Ao74, co74, eo74⟩ := Kd.S_slice HO378.out
            (first | subst eo74 | (injection eo74 with f1_ f2_ f3_; have f4_ := f1_.symm; have f5_ := f3_.symm; clear f1_ f2_ f3_; subst f4_; subst f5_))
            refine hK.out _ _ ⟨(blk_cell BK357.out 0).trans rfl, (blk_cell BK357.out 1).trans rfl, (blk_cell BK357.out 2).trans rfl, (blk_cell BK324.out 0).trans rfl, (blk_cell BK324.out 1).trans rfl, (blk_cell BK324.out 2).trans rfl⟩ (fun hHeld => ?_)
            clear hK K
            refine norm_ (a' := ?_) ?_ ?_
            rotate_left
            · show Act.put _ (some 37) _ = _
              simp only [Act.put, List.setIfInBounds_toArray, List.set_cons_zero, List.set_cons_succ, i64_w, i32_w]
              rfl
            refine one_ (i := 3) (N := some 38) #[true, true, true, true, false] rfl rfl (by kernel_rfl) (by decide) (fun K hK => ?_)
            refine goes_ Try.func19 (by kernel_rfl) rfl #[.agg #[.slice Ao52 t348.length co52, .slice Ao56 t351.length co56, .slice Ao57 t354.length co57], .agg #[.slice Ao72 t370.length co72, .slice Ao73 t373.length co73, .slice Ao74 t376.length co74]] (by rfl) rfl rfl Mp_ ?_
            with_reducible refine (laws_eqProgram.calls k _ _ t348 _ _ t351 _ _ t354 _ _ t370 _ _ t373 _ _ t376 true _ ?side1 ?side2 ?side3 ?side4 ?side5 ?side6 ?side7 ?side8 ?side9 ?side10 ?side11 ?side12 A27.out).mono ?_
            (case side1 => repeat (first | exact (Kd.S_reads' HO350.out).2.2 | (with_reducible refine Kd.C_alloc ?_ _) | (with_reducible refine Kd.C_drewN ?_ _) | (with_reducible refine Kd.C_drew ?_)))
            (case side2 => exact (Kd.S_reads' HO350.out).2.1)
            (case side3 => repeat (first | exact (Kd.S_reads' HO353.out).2.2 | (with_reducible refine Kd.C_alloc ?_ _) | (with_reducible refine Kd.C_drewN ?_ _) | (with_reducible refine Kd.C_drew ?_)))
            (case side4 => exact (Kd.S_reads' HO353.out).2.1)
            (case side5 => repeat (first | exact (Kd.S_reads' HO356.out).2.2 | (with_reducible refine Kd.C_alloc ?_ _) | (with_reducible refine Kd.C_drewN ?_ _) | (with_reducible refine Kd.C_drew ?_)))
            (case side6 => exact (Kd.S_reads' HO356.out).2.1)
            (case side7 => repeat (first | exact (Kd.S_reads' HO372.out).2.2 | (with_reducible refine Kd.C_alloc ?_ _) | (with_reducible refine Kd.C_drewN ?_ _) | (with_reducible refine Kd.C_drew ?_)))
            (case side8 => exact (Kd.S_reads' HO372.out).2.1)
            (case side9 => repeat (first | exact (Kd.S_reads' HO375.out).2.2 | (with_reducible refine Kd.C_alloc ?_ _) | (with_reducible refine Kd.C_drewN ?_ _) | (with_reducible refine Kd.C_drew ?_)))
            (case side10 => exact (Kd.S_reads' HO375.out).2.1)
            (case side11 => repeat (first | exact (Kd.S_reads' HO378.out).2.2 | (with_reducible refine Kd.C_alloc ?_ _) | (with_reducible refine Kd.C_drewN ?_ _) | (with_reducible refine Kd.C_drew ?_)))
            (case side12 => exact (Kd.S_reads' HO378.out).2.1)
            rintro e w75 ⟨rfl, hb⟩
            refine ⟨_, rfl, ?_⟩
            have n0_ := Sb_ HO330 hb
            have n1_ := Sb_ HO333 hb
            have n2_ := Sb_ HO336 hb
            have n3_ := Rb_ HO339 hb
            have n4_ := Rb_ HO342 hb
            have n5_ := Rb_ HO345 hb
            have n6_ := Sb_ HO350 hb
            have n7_ := Sb_ HO353 hb
            have n8_ := Sb_ HO356 hb
            have n9_ := Rb_ HO360 hb
            have n10_ := Rb_ HO363 hb
            have n11_ := Rb_ HO366 hb
            have n12_ := Sb_ HO372 hb
            have n13_ := Sb_ HO375 hb
            have n14_ := Sb_ HO378 hb
            have n15_ := Bb_ BK324 hb
            have n16_ := Bb_ BK325 hb
            have n17_ := Bb_ BK357 hb
            have n18_ := Bb_ BK368 hb
            have n19_ := Hs_ HB hb
            clear HO330
            clear HO333
            clear HO336
            clear HO339
            clear HO342
            clear HO345
            clear HO350
            clear HO353
            clear HO356
            clear HO360
            clear HO363
            clear HO366
            clear HO372
            clear HO375
            clear HO378
            clear BK324
            clear BK325
            clear BK357
            clear BK368
            clear HB
            have HO330 := n0_
            have HO333 := n1_
            have HO336 := n2_
            have HO339 := n3_
            have HO342 := n4_
            have HO345 := n5_
            have HO350 := n6_
            have HO353 := n7_
            have HO356 := n8_
            have HO360 := n9_
            have HO363 := n10_
            have HO366 := n11_
            have HO372 := n12_
            have HO375 := n13_
            have HO378 := n14_
            have BK324 := n15_
            have BK325 := n16_
            have BK357 := n17_
            have BK368 := n18_
            have HB := n19_
            clear n0_ n1_ n2_ n3_ n4_ n5_ n6_ n7_ n8_ n9_ n10_ n11_ n12_ n13_ n14_ n15_ n16_ n17_ n18_ n19_
            (try clear hb)
            (try clear hb2)
            (try clear hk)
            (try clear hi)
            refine hK.out _ _ ⟨(blk_cell BK357.out 0).trans rfl, (blk_cell BK357.out 1).trans rfl, (blk_cell BK357.out 2).trans rfl, (blk_cell BK324.out 0).trans rfl, (blk_cell BK324.out 1).trans rfl, (blk_cell BK324.out 2).trans rfl⟩ (fun hHeld => ?_)
            clear hK K
            refine norm_ (a' := ?_) ?_ ?_
            rotate_left
            · show Act.put _ (some 38) _ = _
              simp only [Act.put, List.setIfInBounds_toArray, List.set_cons_zero, List.set_cons_succ, i64_w, i32_w]
              rfl
            refine pure_ (i := 4) (N := some 39) (v := ?_) (a' := ?_) #[true, true, true, true, true] rfl rfl (by kernel_rfl) (fun _ _ _ h => h) (Or.inl ⟨by rfl, ?_⟩) ?_ ?_
            rotate_left
            · intro w'
              go_simp
              with_reducible rfl
            rotate_left
            · simp only [Act.put, List.setIfInBounds_toArray, List.set_cons_zero, List.set_cons_succ, i64_w, i32_w]
              rfl
            refine done_ (by kernel_rfl) ?_
            try go_wp2
            have n0_ := Aside0.mk (Kd.S_drew HO330.out)
            have n1_ := Aside0.mk (Kd.S_drew HO333.out)
            have n2_ := Aside0.mk (Kd.S_drew HO336.out)
            have n3_ := Aside0.mk (Kd.R_drew HO339.out)
            have n4_ := Aside0.mk (Kd.R_drew HO342.out)
            have n5_ := Aside0.mk (Kd.R_drew HO345.out)
            have n6_ := Aside0.mk (Kd.S_drew HO350.out)
            have n7_ := Aside0.mk (Kd.S_drew HO353.out)
            have n8_ := Aside0.mk (Kd.S_drew HO356.out)
            have n9_ := Aside0.mk (Kd.R_drew HO360.out)
            have n10_ := Aside0.mk (Kd.R_drew HO363.out)
            have n11_ := Aside0.mk (Kd.R_drew HO366.out)
            have n12_ := Aside0.mk (Kd.S_drew HO372.out)
            have n13_ := Aside0.mk (Kd.S_drew HO375.out)
            have n14_ := Aside0.mk (Kd.S_drew HO378.out)
            have n15_ := Aside0.mk (blk_drew BK324.out)
            have n16_ := Aside0.mk (blk_drew BK325.out)
            have n17_ := Aside0.mk (blk_drew BK357.out)
            have n18_ := Aside0.mk (blk_drew BK368.out)
            have n19_ := Aside0.mk (below_drew1 HB.out)
            clear HO330
            clear HO333
            clear HO336
            clear HO339
            clear HO342
            clear HO345
            clear HO350
            clear HO353
            clear HO356
            clear HO360
            clear HO363
            clear HO366
            clear HO372
            clear HO375
            clear HO378
            clear BK324
            clear BK325
            clear BK357
            clear BK368
            clear HB
            have HO330 := n0_
            have HO333 := n1_
            have HO336 := n2_
            have HO339 := n3_
            have HO342 := n4_
            have HO345 := n5_
            have HO350 := n6_
            have HO353 := n7_
            have HO356 := n8_
            have HO360 := n9_
            have HO363 := n10_
            have HO366 := n11_
            have HO372 := n12_
            have HO375 := n13_
            have HO378 := n14_
            have BK324 := n15_
            have BK325 := n16_
            have BK357 := n17_
            have BK368 := n18_
            have HB := n19_
            clear n0_ n1_ n2_ n3_ n4_ n5_ n6_ n7_ n8_ n9_ n10_ n11_ n12_ n13_ n14_ n15_ n16_ n17_ n18_ n19_
            refine start_ (n := 5) (S := fun w' => w'.cell? ⟨gb368, 0, none⟩ = some (.slice Ao61 t358.length co61) ∧ w'.cell? ⟨gb368, 1, none⟩ = some (.slice Ao66 t361.length co66) ∧ w'.cell? ⟨gb368, 2, none⟩ = some (.slice Ao67 t364.length co67) ∧ w'.cell? ⟨gb368, 3, none⟩ = some (.int .i64 t367) ∧ w'.cell? ⟨gb325, 0, none⟩ = some (.slice A1_0 l1_0.length c1_0) ∧ w'.cell? ⟨gb325, 1, none⟩ = some (.slice A1_1 l1_1.length c1_1) ∧ w'.cell? ⟨gb325, 2, none⟩ = some (.slice A1_2 l1_2.length c1_2) ∧ w'.cell? ⟨gb325, 3, none⟩ = some (.int .i64 a1_3)) (ds := []) #[false, false, false, false, false] (by kernel_rfl) rfl rfl ⟨(blk_cell BK368.out 0).trans rfl, (blk_cell BK368.out 1).trans rfl, (blk_cell BK368.out 2).trans rfl, (blk_cell BK368.out 3).trans rfl, (blk_cell BK325.out 0).trans rfl, (blk_cell BK325.out 1).trans rfl, (blk_cell BK325.out 2).trans rfl, (blk_cell BK325.out 3).trans rfl⟩ (fun hHeld => ?_)
            generalize w75.drew = w76 at HO330 HO333 HO336 HO339 HO342 HO345 HO350 HO353 HO356 HO360 HO363 HO366 HO372 HO375 HO378 BK324 BK325 BK357 BK368 HB hHeld ⊢
            refine take_ (i := 0) (N := some 40) (v := ?_) (a' := ?_) #[true, false, false, false, false] rfl rfl (by kernel_rfl) (fun _ _ _ h => h) (Or.inl ⟨by rfl, ?_⟩) hHeld ?_ ?_
            rotate_left
            · rintro w' ⟨s0, s1, s2, s3, s4, s5, s6, s7⟩
              go_simp
              with_reducible rfl
            rotate_left
            · simp only [Act.put, List.setIfInBounds_toArray, List.set_cons_zero, List.set_cons_succ, i64_w, i32_w]
              rfl
            refine take_ (i := 1) (N := some 41) (v := ?_) (a' := ?_) #[true, true, false, false, false] rfl rfl (by kernel_rfl) (fun _ _ _ h => h) (Or.inl ⟨by rfl, ?_⟩) hHeld ?_ ?_
            rotate_left
            · rintro w' ⟨s0, s1, s2, s3, s4, s5, s6, s7⟩
              go_simp
              with_reducible rfl
            rotate_left
            · simp only [Act.put, List.setIfInBounds_toArray, List.set_cons_zero, List.set_cons_succ, i64_w, i32_w]
              rfl
            refine one_ (i := 2) (N := some 42) #[true, true, true, false, false] rfl rfl (by kernel_rfl) (by decide) (fun K hK => ?_)
            refine goes_ Try.func17 (by kernel_rfl) rfl #[.agg #[.slice A1_0 l1_0.length c1_0, .slice A1_1 l1_1.length c1_1, .slice A1_2 l1_2.length c1_2, .int .i64 a1_3]] (by rfl) rfl rfl Mp_ ?_
            with_reducible refine (laws_toThread.calls k _ _ l1_0 _ _ l1_1 _ _ l1_2 a1_3 t380 t383 t386 t389 _ ?side1 ?side2 ?side3 ?side4 ?side5 ?side6 A29.out).mono ?_
            (case side1 => exact Sc_ HR1_0 HB)
            (case side2 => exact HC1_0.out)
            (case side3 => exact Sc_ HR1_1 HB)
            (case side4 => exact HC1_1.out)
            (case side5 => exact Sc_ HR1_2 HB)
            (case side6 => exact HC1_2.out)
            rintro e w77 ⟨v381, v384, v387, rfl, ho0, ho1, ho2, hb⟩
            refine ⟨_, rfl, ?_⟩
            have n0_ := Aside0.mk (Kd.S_mono (Kd.S_told (Kd.S_told (Kd.S_old (by (with_reducible repeat (first | apply Kd.S_alloc | apply Kd.S_drewN | apply Kd.S_drew)); exact HO330.out) hb) (Kd.R_base ho0)) (Kd.R_base ho2)) (fun _ h_ => h_.1))
            have n1_ := Aside0.mk (Kd.S_elder' (by (with_reducible repeat (first | apply Kd.S_alloc | apply Kd.S_drewN | apply Kd.S_drew)); exact HO333.out) (Kd.R_base ho1) hb)
            have n2_ := Aside0.mk (Kd.S_elder' (by (with_reducible repeat (first | apply Kd.S_alloc | apply Kd.S_drewN | apply Kd.S_drew)); exact HO336.out) (Kd.R_base ho1) hb)
            have n3_ := Aside0.mk (Kd.R_mono (Kd.R_told (Kd.R_told (Kd.R_old (by (with_reducible repeat (first | apply Kd.R_alloc | apply Kd.R_drewN | apply Kd.R_drew)); exact HO339.out) hb) (Kd.R_base ho0)) (Kd.R_base ho2)) (fun _ h_ => h_.1))
            have n4_ := Aside0.mk (Kd.R_elder' (by (with_reducible repeat (first | apply Kd.R_alloc | apply Kd.R_drewN | apply Kd.R_drew)); exact HO342.out) (Kd.R_base ho1) hb)
            have n5_ := Aside0.mk (Kd.R_mono (Kd.R_told (Kd.R_told (Kd.R_old (by (with_reducible repeat (first | apply Kd.R_alloc | apply Kd.R_drewN | apply Kd.R_drew)); exact HO345.out) hb) (Kd.R_base ho0)) (Kd.R_base ho2)) (fun _ h_ => h_.1))
            have n6_ := Aside0.mk (Kd.S_mono (Kd.S_told (Kd.S_told (Kd.S_old (by (with_reducible repeat (first | apply Kd.S_alloc | apply Kd.S_drewN | apply Kd.S_drew)); exact HO350.out) hb) (Kd.R_base ho0)) (Kd.R_base ho2)) (fun _ h_ => h_.1))
            have n7_ := Aside0.mk (Kd.S_elder' (by (with_reducible repeat (first | apply Kd.S_alloc | apply Kd.S_drewN | apply Kd.S_drew)); exact HO353.out) (Kd.R_base ho1) hb)
            have n8_ := Aside0.mk (Kd.S_elder' (by (with_reducible repeat (first | apply Kd.S_alloc | apply Kd.S_drewN | apply Kd.S_drew)); exact HO356.out) (Kd.R_base ho1) hb)
            have n9_ := Aside0.mk (Kd.R_mono (Kd.R_told (Kd.R_told (Kd.R_old (by (with_reducible repeat (first | apply Kd.R_alloc | apply Kd.R_drewN | apply Kd.R_drew)); exact HO360.out) hb) (Kd.R_base ho0)) (Kd.R_base ho2)) (fun _ h_ => h_.1))
            have n10_ := Aside0.mk (Kd.R_elder' (by (with_reducible repeat (first | apply Kd.R_alloc | apply Kd.R_drewN | apply Kd.R_drew)); exact HO363.out) (Kd.R_base ho1) hb)
            have n11_ := Aside0.mk (Kd.R_mono (Kd.R_told (Kd.R_told (Kd.R_old (by (with_reducible repeat (first | apply Kd.R_alloc | apply Kd.R_drewN | apply Kd.R_drew)); exact HO366.out) hb) (Kd.R_base ho0)) (Kd.R_base ho2)) (fun _ h_ => h_.1))
            have n12_ := Aside0.mk (Kd.S_mono (Kd.S_told (Kd.S_told (Kd.S_old (by (with_reducible repeat (first | apply Kd.S_alloc | apply Kd.S_drewN | apply Kd.S_drew)); exact HO372.out) hb) (Kd.R_base ho0)) (Kd.R_base ho2)) (fun _ h_ => h_.1))
            have n13_ := Aside0.mk (Kd.S_elder' (by (with_reducible repeat (first | apply Kd.S_alloc | apply Kd.S_drewN | apply Kd.S_drew)); exact HO375.out) (Kd.R_base ho1) hb)
            have n14_ := Aside0.mk (Kd.S_elder' (by (with_reducible repeat (first | apply Kd.S_alloc | apply Kd.S_drewN | apply Kd.S_drew)); exact HO378.out) (Kd.R_base ho1) hb)
            have n15_ := Aside0.mk (Kd.R_lower (Kd.R_new' (Kd.R_new' (Kd.R_new' (Kd.R_new' ho0 (Kd.R_lt (by (with_reducible repeat (first | apply Kd.R_alloc | apply Kd.R_drewN | apply Kd.R_drew)); exact HO339.out))) (Kd.R_lt (by (with_reducible repeat (first | apply Kd.R_alloc | apply Kd.R_drewN | apply Kd.R_drew)); exact HO345.out))) (Kd.R_lt (by (with_reducible repeat (first | apply Kd.R_alloc | apply Kd.R_drewN | apply Kd.R_drew)); exact HO360.out))) (Kd.R_lt (by (with_reducible repeat (first | apply Kd.R_alloc | apply Kd.R_drewN | apply Kd.R_drew)); exact HO366.out))) (below_size (by repeat (first | (with_reducible first | exact HB.out | apply below_alloc | apply pw_below_drewN | apply below_drew1 | refine below_set ?_ GE324.out | refine below_set ?_ GE325.out | refine below_set ?_ GE357.out | refine below_set ?_ GE368.out) | exact HB.out))))
            have n16_ := Aside0.mk (Kd.R_lower (Kd.R_new' (Kd.R_new' ho1 (Kd.R_lt (by (with_reducible repeat (first | apply Kd.R_alloc | apply Kd.R_drewN | apply Kd.R_drew)); exact HO342.out))) (Kd.R_lt (by (with_reducible repeat (first | apply Kd.R_alloc | apply Kd.R_drewN | apply Kd.R_drew)); exact HO363.out))) (below_size (by repeat (first | (with_reducible first | exact HB.out | apply below_alloc | apply pw_below_drewN | apply below_drew1 | refine below_set ?_ GE324.out | refine below_set ?_ GE325.out | refine below_set ?_ GE357.out | refine below_set ?_ GE368.out) | exact HB.out))))
            have n17_ := Aside0.mk (Kd.R_lower (Kd.R_new' (Kd.R_new' (Kd.R_new' (Kd.R_new' ho2 (Kd.R_lt (by (with_reducible repeat (first | apply Kd.R_alloc | apply Kd.R_drewN | apply Kd.R_drew)); exact HO339.out))) (Kd.R_lt (by (with_reducible repeat (first | apply Kd.R_alloc | apply Kd.R_drewN | apply Kd.R_drew)); exact HO345.out))) (Kd.R_lt (by (with_reducible repeat (first | apply Kd.R_alloc | apply Kd.R_drewN | apply Kd.R_drew)); exact HO360.out))) (Kd.R_lt (by (with_reducible repeat (first | apply Kd.R_alloc | apply Kd.R_drewN | apply Kd.R_drew)); exact HO366.out))) (below_size (by repeat (first | (with_reducible first | exact HB.out | apply below_alloc | apply pw_below_drewN | apply below_drew1 | refine below_set ?_ GE324.out | refine below_set ?_ GE325.out | refine below_set ?_ GE357.out | refine below_set ?_ GE368.out) | exact HB.out))))
            have n18_ := Bb_ BK324 hb
            have n19_ := Bb_ BK325 hb
            have n20_ := Bb_ BK357 hb
            have n21_ := Bb_ BK368 hb
            have n22_ := Hs_ HB hb
            clear HO330
            clear HO333
            clear HO336
            clear HO339
            clear HO342
            clear HO345
            clear HO350
            clear HO353
            clear HO356
            clear HO360
            clear HO363
            clear HO366
            clear HO372
            clear HO375
            clear HO378
            clear BK324
            clear BK325
            clear BK357
            clear BK368
            clear HB
            have HO330 := n0_
            have HO333 := n1_
            have HO336 := n2_
            have HO339 := n3_
            have HO342 := n4_
            have HO345 := n5_
            have HO350 := n6_
            have HO353 := n7_
            have HO356 := n8_
            have HO360 := n9_
            have HO363 := n10_
            have HO366 := n11_
            have HO372 := n12_
            have HO375 := n13_
            have HO378 := n14_
            have HO382 := n15_
            have HO385 := n16_
            have HO388 := n17_
            have BK324 := n18_
            have BK325 := n19_
            have BK357 := n20_
            have BK368 := n21_
            have HB := n22_
            clear n0_ n1_ n2_ n3_ n4_ n5_ n6_ n7_ n8_ n9_ n10_ n11_ n12_ n13_ n14_ n15_ n16_ n17_ n18_ n19_ n20_ n21_ n22_
            (try clear hb)
            (try clear hb2)
            (try clear hk)
            (try clear hi)
            (try clear ho0)
            (try clear ho1)
            (try clear ho2)
            obtain ⟨Ao78, co78, eo78⟩ := Kd.R_slice HO382.out
            (first | subst eo78 | (injection eo78 with f1_ f2_ f3_; have f4_ := f1_.symm; have f5_ := f3_.symm; clear f1_ f2_ f3_; subst f4_; subst f5_))
            obtain ⟨Ao79, co79, eo79⟩ := Kd.R_slice HO385.out
            (first | subst eo79 | (injection eo79 with f1_ f2_ f3_; have f4_ := f1_.symm; have f5_ := f3_.symm; clear f1_ f2_ f3_; subst f4_; subst f5_))
            obtain ⟨Ao80, co80, eo80⟩ := Kd.R_slice HO388.out
            (first | subst eo80 | (injection eo80 with f1_ f2_ f3_; have f4_ := f1_.symm; have f5_ := f3_.symm; clear f1_ f2_ f3_; subst f4_; subst f5_))
            refine hK.out _ _ ⟨(blk_cell BK368.out 0).trans rfl, (blk_cell BK368.out 1).trans rfl, (blk_cell BK368.out 2).trans rfl, (blk_cell BK368.out 3).trans rfl, (blk_cell BK325.out 0).trans rfl, (blk_cell BK325.out 1).trans rfl, (blk_cell BK325.out 2).trans rfl, (blk_cell BK325.out 3).trans rfl⟩ (fun hHeld => ?_)
            clear hK K
            refine norm_ (a' := ?_) ?_ ?_
            rotate_left
            · show Act.put _ (some 42) _ = _
              simp only [Act.put, List.setIfInBounds_toArray, List.set_cons_zero, List.set_cons_succ, i64_w, i32_w]
              rfl
            refine one_ (i := 3) (N := some 43) #[true, true, true, true, false] rfl rfl (by kernel_rfl) (by decide) (fun K hK => ?_)
            refine goes_ Try.func20 (by kernel_rfl) rfl #[.agg #[.slice Ao61 t358.length co61, .slice Ao66 t361.length co66, .slice Ao67 t364.length co67, .int .i64 t367], .agg #[.slice Ao78 t380.length co78, .slice Ao79 t383.length co79, .slice Ao80 t386.length co80, .int .i64 t389]] (by rfl) rfl rfl Mp_ ?_
            with_reducible refine (laws_eqThread.calls k _ _ t358 _ _ t361 _ _ t364 t367 _ _ t380 _ _ t383 _ _ t386 t389 true _ ?side1 ?side2 ?side3 ?side4 ?side5 ?side6 ?side7 ?side8 ?side9 ?side10 ?side11 ?side12 A30.out).mono ?_
            (case side1 => repeat (first | exact (Kd.R_reads' HO360.out).2.2 | (with_reducible refine Kd.C_alloc ?_ _) | (with_reducible refine Kd.C_drewN ?_ _) | (with_reducible refine Kd.C_drew ?_)))
            (case side2 => exact (Kd.R_reads' HO360.out).2.1)
            (case side3 => repeat (first | exact (Kd.R_reads' HO363.out).2.2 | (with_reducible refine Kd.C_alloc ?_ _) | (with_reducible refine Kd.C_drewN ?_ _) | (with_reducible refine Kd.C_drew ?_)))
            (case side4 => exact (Kd.R_reads' HO363.out).2.1)
            (case side5 => repeat (first | exact (Kd.R_reads' HO366.out).2.2 | (with_reducible refine Kd.C_alloc ?_ _) | (with_reducible refine Kd.C_drewN ?_ _) | (with_reducible refine Kd.C_drew ?_)))
            (case side6 => exact (Kd.R_reads' HO366.out).2.1)
            (case side7 => repeat (first | exact (Kd.R_reads' HO382.out).2.2 | (with_reducible refine Kd.C_alloc ?_ _) | (with_reducible refine Kd.C_drewN ?_ _) | (with_reducible refine Kd.C_drew ?_)))
            (case side8 => exact (Kd.R_reads' HO382.out).2.1)
            (case side9 => repeat (first | exact (Kd.R_reads' HO385.out).2.2 | (with_reducible refine Kd.C_alloc ?_ _) | (with_reducible refine Kd.C_drewN ?_ _) | (with_reducible refine Kd.C_drew ?_)))
            (case side10 => exact (Kd.R_reads' HO385.out).2.1)
            (case side11 => repeat (first | exact (Kd.R_reads' HO388.out).2.2 | (with_reducible refine Kd.C_alloc ?_ _) | (with_reducible refine Kd.C_drewN ?_ _) | (with_reducible refine Kd.C_drew ?_)))
            (case side12 => exact (Kd.R_reads' HO388.out).2.1)
            rintro e w81 ⟨rfl, hb⟩
            refine ⟨_, rfl, ?_⟩
            have n0_ := Sb_ HO330 hb
            have n1_ := Sb_ HO333 hb
            have n2_ := Sb_ HO336 hb
            have n3_ := Rb_ HO339 hb
            have n4_ := Rb_ HO342 hb
            have n5_ := Rb_ HO345 hb
            have n6_ := Sb_ HO350 hb
            have n7_ := Sb_ HO353 hb
            have n8_ := Sb_ HO356 hb
            have n9_ := Rb_ HO360 hb
            have n10_ := Rb_ HO363 hb
            have n11_ := Rb_ HO366 hb
            have n12_ := Sb_ HO372 hb
            have n13_ := Sb_ HO375 hb
            have n14_ := Sb_ HO378 hb
            have n15_ := Rb_ HO382 hb
            have n16_ := Rb_ HO385 hb
            have n17_ := Rb_ HO388 hb
            have n18_ := Bb_ BK324 hb
            have n19_ := Bb_ BK325 hb
            have n20_ := Bb_ BK357 hb
            have n21_ := Bb_ BK368 hb
            have n22_ := Hs_ HB hb
            clear HO330
            clear HO333
            clear HO336
            clear HO339
            clear HO342
            clear HO345
            clear HO350
            clear HO353
            clear HO356
            clear HO360
            clear HO363
            clear HO366
            clear HO372
            clear HO375
            clear HO378
            clear HO382
            clear HO385
            clear HO388
            clear BK324
            clear BK325
            clear BK357
            clear BK368
            clear HB
            have HO330 := n0_
            have HO333 := n1_
            have HO336 := n2_
            have HO339 := n3_
            have HO342 := n4_
            have HO345 := n5_
            have HO350 := n6_
            have HO353 := n7_
            have HO356 := n8_
            have HO360 := n9_
            have HO363 := n10_
            have HO366 := n11_
            have HO372 := n12_
            have HO375 := n13_
            have HO378 := n14_
            have HO382 := n15_
            have HO385 := n16_
            have HO388 := n17_
            have BK324 := n18_
            have BK325 := n19_
            have BK357 := n20_
            have BK368 := n21_
            have HB := n22_
            clear n0_ n1_ n2_ n3_ n4_ n5_ n6_ n7_ n8_ n9_ n10_ n11_ n12_ n13_ n14_ n15_ n16_ n17_ n18_ n19_ n20_ n21_ n22_
            (try clear hb)
            (try clear hb2)
            (try clear hk)
            (try clear hi)
            refine hK.out _ _ ⟨(blk_cell BK368.out 0).trans rfl, (blk_cell BK368.out 1).trans rfl, (blk_cell BK368.out 2).trans rfl, (blk_cell BK368.out 3).trans rfl, (blk_cell BK325.out 0).trans rfl, (blk_cell BK325.out 1).trans rfl, (blk_cell BK325.out 2).trans rfl, (blk_cell BK325.out 3).trans rfl⟩ (fun hHeld => ?_)
            clear hK K
            refine norm_ (a' := ?_) ?_ ?_
            rotate_left
            · show Act.put _ (some 43) _ = _
              simp only [Act.put, List.setIfInBounds_toArray, List.set_cons_zero, List.set_cons_succ, i64_w, i32_w]
              rfl
            refine pure_ (i := 4) (N := some 44) (v := ?_) (a' := ?_) #[true, true, true, true, true] rfl rfl (by kernel_rfl) (fun _ _ _ h => h) (Or.inl ⟨by rfl, ?_⟩) ?_ ?_
            rotate_left
            · intro w'
              go_simp
              with_reducible rfl
            rotate_left
            · simp only [Act.put, List.setIfInBounds_toArray, List.set_cons_zero, List.set_cons_succ, i64_w, i32_w]
              rfl
            refine done_ (by kernel_rfl) ?_
            try go_wp2
            go_ret
            exact ⟨Re_, Hf_ HB⟩
          · replace c31 := Bool.eq_false_iff.mpr c31
            subst c31
            have H1 : (some false) = some r := by rw [if_neg (show ¬ (false = true) by decide)] at H; exact H
            clear H
            have H := H1
            clear H1
            exact absurd (Option.some.inj H) (by rw [hlaw_.out]; decide)
        · replace c28 := Bool.eq_false_iff.mpr c28
          subst c28
          have H1 : (some false) = some r := by rw [if_neg (show ¬ (false = true) by decide)] at H; exact H
          clear H
          have H := H1
          clear H1
          exact absurd (Option.some.inj H) (by rw [hlaw_.out]; decide)
      · rw [if_neg c25] at H
        have c25b0 : (t369 == t347) = false := beq_eq_false_iff_ne.mpr c25
        have c25b1 : (t369 != t347) = true := bne_iff_ne.mpr c25
        exact absurd (Option.some.inj H) (by rw [hlaw_.out]; decide)

end Go.Proofs.Ytmbkcbgbienjoaa.PFnExactStateOf
