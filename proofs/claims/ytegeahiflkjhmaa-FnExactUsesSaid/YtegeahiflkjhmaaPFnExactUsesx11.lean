/- The machine side of the law FnExactUses: for each function that it reaches, a Lean function and its contract. Written by a program of this session's over the kit's print. No condition. -/
import Derived.Test.YtegeahiflkjhmaaCmp
import Derived.Test.YtegeahiflkjhmaaPFnExactUsesx0
import Derived.Test.YtegeahiflkjhmaaPFnExactUsesx2
import Derived.Test.YtegeahiflkjhmaaPFnExactUsesx3
import Derived.Test.YtegeahiflkjhmaaPFnExactUsesx7
import Derived.Test.YtegeahiflkjhmaaPFnExactUsesx8
import Derived.Test.YtegeahiflkjhmaaPFnExactUsesx10
namespace Go.Proofs.Ytegeahiflkjhmaa.PFnExactUses
open Go.RowKit Go.Proofs.YtegeahiflkjhmaaW.PrintWords Go.Proofs.YtegeahiflkjhmaaW.PrintLast Go.Proofs.YtegeahiflkjhmaaW.PrintMore Go.Proofs.Ytegeahiflkjhmaa.Cmp
attribute [local go_sem] max2_int min2_int max_two min_two max_three min_three max_four min_four   -- for this text's walks alone
set_option linter.unusedVariables false
set_option linter.unusedSimpArgs false

/-! ### laws_FnExactUses: function 11 -/
def laws_FnExactUses.f (k : Nat) (l0_0 : List (S148)) (l0_1 : List (S152)) (l0_2 : List (S154)) (a1 : Int) (a2 : Int) : Option (Bool) := (laws_szProgram.f k l0_0 l0_1 l0_2 1048576).bind fun t280 => (if t280 < 0 then (some true) else ((laws_toProgram.f k l0_0 l0_1 l0_2).bind fun bt281 => ((spec_Uses.f k bt281.1 bt281.2.1 bt281.2.2 a1 a2).bind fun t290 => ((laws_toProgram.f k l0_0 l0_1 l0_2).bind fun bt291 => ((impl_Uses.f k bt291.1 bt291.2.1 bt291.2.2 a1 a2).bind fun t301 => (if (t301 != t290) = true then (some false) else ((laws_toProgram.f k l0_0 l0_1 l0_2).bind fun bt302 => ((laws_eqProgram.f k bt291.1 bt291.2.1 bt291.2.2 bt302.1 bt302.2.1 bt302.2.2).bind fun t311 => (if t311 = true then (some true) else (some false))))))))))
theorem laws_FnExactUses.mono : ∀ a0 a1 a2 a3 a4 k, LeO (laws_FnExactUses.f k a0 a1 a2 a3 a4) (laws_FnExactUses.f (k + 1) a0 a1 a2 a3 a4) := by
  intro a0 a1 a2 a3 a4 k
  unfold laws_FnExactUses.f
  repeat' first
      | (with_reducible exact impl_Uses.mono _ _ _ _ _ _)
      | (with_reducible exact laws_eqProgram.mono _ _ _ _ _ _ _)
      | (with_reducible exact laws_szProgram.mono _ _ _ _ _)
      | (with_reducible exact laws_toProgram.mono _ _ _ _)
      | (with_reducible exact spec_Uses.mono _ _ _ _ _ _)
      | (with_reducible exact LeO.refl _)
      | (with_reducible exact LeO.none _)
      | (with_reducible refine LeO.ite ?_ ?_)
      | (with_reducible refine LeO.bind ?_ (fun _ => ?_))
      | exact impl_Uses.mono _ _ _ _ _ _
      | exact laws_eqProgram.mono _ _ _ _ _ _ _
      | exact laws_szProgram.mono _ _ _ _ _
      | exact laws_toProgram.mono _ _ _ _
      | exact spec_Uses.mono _ _ _ _ _ _
      | exact LeO.none _
      | refine LeO.ite ?_ ?_
      | refine LeO.bind ?_ (fun _ => ?_)
set_option maxHeartbeats 8000000 in
set_option maxRecDepth 100000 in
theorem laws_FnExactUses.calls (k : Nat) (A0_0 : Option Addr) (c0_0 : Nat) (l0_0 : List (S148)) (A0_1 : Option Addr) (c0_1 : Nat) (l0_1 : List (S152)) (A0_2 : Option Addr) (c0_2 : Nat) (l0_2 : List (S154)) (a1 : Int) (a2 : Int) (r : Bool) (w : World) (hr0_0 : Kd.C k148 w A0_0 l0_0.length l0_0) (hc0_0 : l0_0.length ≤ c0_0) (hr0_1 : Kd.C k152 w A0_1 l0_1.length l0_1) (hc0_1 : l0_1.length ≤ c0_1) (hr0_2 : Kd.C k154 w A0_2 l0_2.length l0_2) (hc0_2 : l0_2.length ≤ c0_2) (hlaw_ : Aside0 (r = true)) (h : laws_FnExactUses.f k l0_0 l0_1 l0_2 a1 a2 = some r) :
    Calls Try.prog 11 #[.agg #[.slice A0_0 l0_0.length c0_0, .slice A0_1 l0_1.length c0_1, .slice A0_2 l0_2.length c0_2], .int .i64 a1, .int .i64 a2] w fun e w' => e = .returned (.bool r) ∧ Below w.heap.size w w' := by
  have hu66 := Try.underlying66
  have hu73 := Try.underlying73
  have HR0_0 := Aside0.mk hr0_0
  have HC0_0 := Aside0.mk hc0_0
  clear hr0_0 hc0_0
  have HR0_1 := Aside0.mk hr0_1
  have HC0_1 := Aside0.mk hc0_1
  clear hr0_1 hc0_1
  have HR0_2 := Aside0.mk hr0_2
  have HC0_2 := Aside0.mk hc0_2
  clear hr0_2 hc0_2
  have HB := Aside0.mk (Below.refl w.heap.size w)
  have H : ((laws_szProgram.f k l0_0 l0_1 l0_2 1048576).bind fun t280 => (if t280 < 0 then (some true) else ((laws_toProgram.f k l0_0 l0_1 l0_2).bind fun bt281 => ((spec_Uses.f k bt281.1 bt281.2.1 bt281.2.2 a1 a2).bind fun t290 => ((laws_toProgram.f k l0_0 l0_1 l0_2).bind fun bt291 => ((impl_Uses.f k bt291.1 bt291.2.1 bt291.2.2 a1 a2).bind fun t301 => (if (t301 != t290) = true then (some false) else ((laws_toProgram.f k l0_0 l0_1 l0_2).bind fun bt302 => ((laws_eqProgram.f k bt291.1 bt291.2.1 bt291.2.2 bt302.1 bt302.2.1 bt302.2.2).bind fun t311 => (if t311 = true then (some true) else (some false))))))))))) = some r := h
  clear h
  replace H := Option.bind_eq_some_iff.mp H
  obtain ⟨t280, A40, H⟩ := H
  replace H : (if t280 < 0 then (some true) else ((laws_toProgram.f k l0_0 l0_1 l0_2).bind fun bt281 => ((spec_Uses.f k bt281.1 bt281.2.1 bt281.2.2 a1 a2).bind fun t290 => ((laws_toProgram.f k l0_0 l0_1 l0_2).bind fun bt291 => ((impl_Uses.f k bt291.1 bt291.2.1 bt291.2.2 a1 a2).bind fun t301 => (if (t301 != t290) = true then (some false) else ((laws_toProgram.f k l0_0 l0_1 l0_2).bind fun bt302 => ((laws_eqProgram.f k bt291.1 bt291.2.1 bt291.2.2 bt302.1 bt302.2.1 bt302.2.2).bind fun t311 => (if t311 = true then (some true) else (some false)))))))))) = some r := H
  have A4 := Aside0.mk A40
  clear A40
  by_cases c5 : t280 < 0
  · rw [if_pos c5] at H
    have c5b0 : decide (t280 < 0) = true := decide_eq_true c5
    clear c5
    obtain rfl := Option.some.inj H
    go_enter Try.func11, Try.ntmps11
    go_wp2_with (first | ((with_reducible refine gate_dst (N := 3) rfl ?_); refine box_event ?hg (N := 3) ?hd (cs := #[.slice A0_0 l0_0.length c0_0, .slice A0_1 l0_1.length c0_1, .slice A0_2 l0_2.length c0_2]) (t := 66) ?hr ?_; (case hd => rfl); (case hg => rfl); (case hr => first | (go_simp; done) | (go_simp; rfl)); intro gb279 hg w6 hbox hb; have BK279 := Aside0.mk (hbox); have GW279 := Hg_ HB hg; have GE279 := GW279; replace HB := Hs_ HB hb; clear hb hbox hg; obtain ⟨hcz7_0, hcz7_1, hcz7_2, hfz7_0, hfz7_1, hfz7_2⟩ := Bc3_ BK279) | ((with_reducible refine gate_callee (f := 44) rfl ?_); refine goesL_ (some 13) rfl rfl Try.func44 (by kernel_rfl) rfl #[.agg #[.slice A0_0 l0_0.length c0_0, .slice A0_1 l0_1.length c0_1, .slice A0_2 l0_2.length c0_2], .int .i64 1048576] rfl Mp_ ?_; (with_reducible refine (laws_szProgram.calls k _ _ l0_0 _ _ l0_1 _ _ l0_2 1048576 t280 _ ?side1 ?side2 ?side3 ?side4 ?side5 ?side6 A4.out).mono ?_); (case side1 => exact Sc_ HR0_0 HB); (case side2 => exact HC0_0.out); (case side3 => exact Sc_ HR0_1 HB); (case side4 => exact HC0_1.out); (case side5 => exact Sc_ HR0_2 HB); (case side6 => exact HC0_2.out); rintro e w8 ⟨rfl, hb⟩; refine ⟨_, rfl, ?_⟩; replace BK279 := Bb_ BK279 hb; replace HB := Hs_ HB hb; (try clear hb); (try clear hb2); (try clear hk); (try clear hi)))
    go_ret
    exact ⟨Re_, Hf_ HB⟩
  · rw [if_neg c5] at H
    have c5b0 : decide (t280 < 0) = false := decide_eq_false c5
    clear c5
    replace H := Option.bind_eq_some_iff.mp H
    obtain ⟨⟨t281, t284, t287⟩, A90, H⟩ := H
    replace H : ((spec_Uses.f k t281 t284 t287 a1 a2).bind fun t290 => ((laws_toProgram.f k l0_0 l0_1 l0_2).bind fun bt291 => ((impl_Uses.f k bt291.1 bt291.2.1 bt291.2.2 a1 a2).bind fun t301 => (if (t301 != t290) = true then (some false) else ((laws_toProgram.f k l0_0 l0_1 l0_2).bind fun bt302 => ((laws_eqProgram.f k bt291.1 bt291.2.1 bt291.2.2 bt302.1 bt302.2.1 bt302.2.2).bind fun t311 => (if t311 = true then (some true) else (some false)))))))) = some r := H
    have A9 := Aside0.mk A90
    clear A90
    replace H := Option.bind_eq_some_iff.mp H
    obtain ⟨t290, A100, H⟩ := H
    replace H : ((laws_toProgram.f k l0_0 l0_1 l0_2).bind fun bt291 => ((impl_Uses.f k bt291.1 bt291.2.1 bt291.2.2 a1 a2).bind fun t301 => (if (t301 != t290) = true then (some false) else ((laws_toProgram.f k l0_0 l0_1 l0_2).bind fun bt302 => ((laws_eqProgram.f k bt291.1 bt291.2.1 bt291.2.2 bt302.1 bt302.2.1 bt302.2.2).bind fun t311 => (if t311 = true then (some true) else (some false))))))) = some r := H
    have A10 := Aside0.mk A100
    clear A100
    replace H := Option.bind_eq_some_iff.mp H
    obtain ⟨⟨t291, t294, t297⟩, A110, H⟩ := H
    replace H : ((impl_Uses.f k t291 t294 t297 a1 a2).bind fun t301 => (if (t301 != t290) = true then (some false) else ((laws_toProgram.f k l0_0 l0_1 l0_2).bind fun bt302 => ((laws_eqProgram.f k t291 t294 t297 bt302.1 bt302.2.1 bt302.2.2).bind fun t311 => (if t311 = true then (some true) else (some false)))))) = some r := H
    have A11 := Aside0.mk A110
    clear A110
    replace H := Option.bind_eq_some_iff.mp H
    obtain ⟨t301, A120, H⟩ := H
    replace H : (if (t301 != t290) = true then (some false) else ((laws_toProgram.f k l0_0 l0_1 l0_2).bind fun bt302 => ((laws_eqProgram.f k t291 t294 t297 bt302.1 bt302.2.1 bt302.2.2).bind fun t311 => (if t311 = true then (some true) else (some false))))) = some r := H
    have A12 := Aside0.mk A120
    clear A120
    by_cases c13 : (t301 != t290) = true
    · rw [if_pos c13] at H
      have c13b0 : (t301 != t290) = true := c13
      (try (have c13b1 : decide (t301 = t290) = false := by simpa using c13))
      (try (have c13b2 : (t301 == t290) = false := by simpa using c13))
      (try (have c13b3 : ¬ (t301 = t290) := by simpa using c13))
      clear c13
      exact absurd (Option.some.inj H) (by rw [hlaw_.out]; decide)
    · rw [if_neg c13] at H
      have c13b0 : (t301 != t290) = false := by simpa using c13
      (try (have c13b1 : decide (t301 = t290) = true := by simpa using c13))
      (try (have c13b2 : (t301 == t290) = true := by simpa using c13))
      clear c13
      replace H := Option.bind_eq_some_iff.mp H
      obtain ⟨⟨t302, t305, t308⟩, A140, H⟩ := H
      replace H : ((laws_eqProgram.f k t291 t294 t297 t302 t305 t308).bind fun t311 => (if t311 = true then (some true) else (some false))) = some r := H
      have A14 := Aside0.mk A140
      clear A140
      replace H := Option.bind_eq_some_iff.mp H
      obtain ⟨t311, A150, H⟩ := H
      replace H : (if t311 = true then (some true) else (some false)) = some r := H
      have A15 := Aside0.mk A150
      clear A150
      by_cases c16 : t311 = true
      · subst c16
        have H1 : (some true) = some r := by rw [if_pos rfl] at H; exact H
        clear H
        have H := H1
        clear H1
        obtain rfl := Option.some.inj H
        go_enter Try.func11, Try.ntmps11
        try go_wp2_with (first | ((with_reducible refine gate_dst (N := 3) rfl ?_); refine box_event ?hg (N := 3) ?hd (cs := #[.slice A0_0 l0_0.length c0_0, .slice A0_1 l0_1.length c0_1, .slice A0_2 l0_2.length c0_2]) (t := 66) ?hr ?_; (case hd => rfl); (case hg => rfl); (case hr => first | (go_simp; done) | (go_simp; rfl)); intro gb279 hg w17 hbox hb; have BK279 := Aside0.mk (hbox); have GW279 := Hg_ HB hg; have GE279 := GW279; replace HB := Hs_ HB hb; clear hb hbox hg; obtain ⟨hcz18_0, hcz18_1, hcz18_2, hfz18_0, hfz18_1, hfz18_2⟩ := Bc3_ BK279) | ((with_reducible refine gate_callee (f := 44) rfl ?_); refine goesL_ (some 13) rfl rfl Try.func44 (by kernel_rfl) rfl #[.agg #[.slice A0_0 l0_0.length c0_0, .slice A0_1 l0_1.length c0_1, .slice A0_2 l0_2.length c0_2], .int .i64 1048576] rfl Mp_ ?_; (with_reducible refine (laws_szProgram.calls k _ _ l0_0 _ _ l0_1 _ _ l0_2 1048576 t280 _ ?side1 ?side2 ?side3 ?side4 ?side5 ?side6 A4.out).mono ?_); (case side1 => exact Sc_ HR0_0 HB); (case side2 => exact HC0_0.out); (case side3 => exact Sc_ HR0_1 HB); (case side4 => exact HC0_1.out); (case side5 => exact Sc_ HR0_2 HB); (case side6 => exact HC0_2.out); rintro e w19 ⟨rfl, hb⟩; refine ⟨_, rfl, ?_⟩; replace BK279 := Bb_ BK279 hb; replace HB := Hs_ HB hb; (try clear hb); (try clear hb2); (try clear hk); (try clear hi); obtain ⟨hcz20_0, hcz20_1, hcz20_2, hfz20_0, hfz20_1, hfz20_2⟩ := Bc3_ BK279) | ((with_reducible refine gate_callee (f := 46) rfl ?_); refine goesL_ (some 17) rfl rfl Try.func46 (by kernel_rfl) rfl #[.agg #[.slice A0_0 l0_0.length c0_0, .slice A0_1 l0_1.length c0_1, .slice A0_2 l0_2.length c0_2]] rfl Mp_ ?_; (with_reducible refine (laws_toProgram.calls k _ _ l0_0 _ _ l0_1 _ _ l0_2 t281 t284 t287 _ ?side1 ?side2 ?side3 ?side4 ?side5 ?side6 A9.out).mono ?_); (case side1 => exact Sc_ HR0_0 HB); (case side2 => exact HC0_0.out); (case side3 => exact Sc_ HR0_1 HB); (case side4 => exact HC0_1.out); (case side5 => exact Sc_ HR0_2 HB); (case side6 => exact HC0_2.out); rintro e w21 ⟨v282, v285, v288, rfl, ho0, ho1, ho2, hb⟩; refine ⟨_, rfl, ?_⟩; have HO283 := Aside0.mk (Kd.S_lower ho0 (below_size (by repeat (first | (with_reducible first | exact HB.out | apply below_alloc | apply pw_below_drewN | apply below_drew1 | refine below_set ?_ GE279.out) | exact HB.out)))); have HO286 := Aside0.mk (Kd.S_lower ho1 (below_size (by repeat (first | (with_reducible first | exact HB.out | apply below_alloc | apply pw_below_drewN | apply below_drew1 | refine below_set ?_ GE279.out) | exact HB.out)))); have HO289 := Aside0.mk (Kd.S_lower ho2 (below_size (by repeat (first | (with_reducible first | exact HB.out | apply below_alloc | apply pw_below_drewN | apply below_drew1 | refine below_set ?_ GE279.out) | exact HB.out)))); replace BK279 := Bb_ BK279 hb; replace HB := Hs_ HB hb; (try clear hb); (try clear hb2); (try clear hk); (try clear hi); (try clear ho0); (try clear ho1); (try clear ho2); obtain ⟨Ao22, co22, eo22⟩ := Kd.S_slice HO283.out; subst eo22; obtain ⟨Ao23, co23, eo23⟩ := Kd.S_slice HO286.out; subst eo23; obtain ⟨Ao24, co24, eo24⟩ := Kd.S_slice HO289.out; subst eo24) | ((with_reducible refine gate_callee (f := 51) rfl ?_); refine goesL_ (some 20) rfl rfl Try.func51 (by kernel_rfl) rfl #[.agg #[.slice Ao22 t281.length co22, .slice Ao23 t284.length co23, .slice Ao24 t287.length co24], .int .i64 a1, .int .i64 a2] rfl Mp_ ?_; (with_reducible refine (spec_Uses.calls k _ _ t281 _ _ t284 _ _ t287 a1 a2 t290 _ ?side1 ?side2 ?side3 ?side4 ?side5 ?side6 A10.out).mono ?_); (case side1 => repeat (first | exact (Kd.S_reads' HO283.out).2.2 | (with_reducible refine Kd.C_alloc ?_ _) | (with_reducible refine Kd.C_drewN ?_ _) | (with_reducible refine Kd.C_drew ?_))); (case side2 => exact (Kd.S_reads' HO283.out).2.1); (case side3 => repeat (first | exact (Kd.S_reads' HO286.out).2.2 | (with_reducible refine Kd.C_alloc ?_ _) | (with_reducible refine Kd.C_drewN ?_ _) | (with_reducible refine Kd.C_drew ?_))); (case side4 => exact (Kd.S_reads' HO286.out).2.1); (case side5 => repeat (first | exact (Kd.S_reads' HO289.out).2.2 | (with_reducible refine Kd.C_alloc ?_ _) | (with_reducible refine Kd.C_drewN ?_ _) | (with_reducible refine Kd.C_drew ?_))); (case side6 => exact (Kd.S_reads' HO289.out).2.1); rintro e w25 ⟨rfl, hb⟩; refine ⟨_, rfl, ?_⟩; replace HO283 := Sb_ HO283 hb; replace HO286 := Sb_ HO286 hb; replace HO289 := Sb_ HO289 hb; replace BK279 := Bb_ BK279 hb; replace HB := Hs_ HB hb; (try clear hb); (try clear hb2); (try clear hk); (try clear hi); obtain ⟨hcz26_0, hcz26_1, hcz26_2, hfz26_0, hfz26_1, hfz26_2⟩ := Bc3_ BK279) | ((with_reducible refine gate_callee (f := 46) rfl ?_); refine goesL_ (some 22) rfl rfl Try.func46 (by kernel_rfl) rfl #[.agg #[.slice A0_0 l0_0.length c0_0, .slice A0_1 l0_1.length c0_1, .slice A0_2 l0_2.length c0_2]] rfl Mp_ ?_; (with_reducible refine (laws_toProgram.calls k _ _ l0_0 _ _ l0_1 _ _ l0_2 t291 t294 t297 _ ?side1 ?side2 ?side3 ?side4 ?side5 ?side6 A11.out).mono ?_); (case side1 => exact Sc_ HR0_0 HB); (case side2 => exact HC0_0.out); (case side3 => exact Sc_ HR0_1 HB); (case side4 => exact HC0_1.out); (case side5 => exact Sc_ HR0_2 HB); (case side6 => exact HC0_2.out); rintro e w27 ⟨v292, v295, v298, rfl, ho0, ho1, ho2, hb⟩; refine ⟨_, rfl, ?_⟩; have HO293 := Aside0.mk (Kd.S_lower (Kd.S_new' ho0 (Kd.S_lt (by (with_reducible repeat (first | apply Kd.S_alloc | apply Kd.S_drewN | apply Kd.S_drew)); exact HO283.out))) (below_size (by repeat (first | (with_reducible first | exact HB.out | apply below_alloc | apply pw_below_drewN | apply below_drew1 | refine below_set ?_ GE279.out) | exact HB.out)))); have HO296 := Aside0.mk (Kd.S_lower (Kd.S_new' ho1 (Kd.S_lt (by (with_reducible repeat (first | apply Kd.S_alloc | apply Kd.S_drewN | apply Kd.S_drew)); exact HO286.out))) (below_size (by repeat (first | (with_reducible first | exact HB.out | apply below_alloc | apply pw_below_drewN | apply below_drew1 | refine below_set ?_ GE279.out) | exact HB.out)))); have HO299 := Aside0.mk (Kd.S_lower (Kd.S_new' ho2 (Kd.S_lt (by (with_reducible repeat (first | apply Kd.S_alloc | apply Kd.S_drewN | apply Kd.S_drew)); exact HO289.out))) (below_size (by repeat (first | (with_reducible first | exact HB.out | apply below_alloc | apply pw_below_drewN | apply below_drew1 | refine below_set ?_ GE279.out) | exact HB.out)))); replace HO283 := Aside0.mk (Kd.S_elder' (by (with_reducible repeat (first | apply Kd.S_alloc | apply Kd.S_drewN | apply Kd.S_drew)); exact HO283.out) (Kd.S_base ho0) hb); replace HO286 := Aside0.mk (Kd.S_elder' (by (with_reducible repeat (first | apply Kd.S_alloc | apply Kd.S_drewN | apply Kd.S_drew)); exact HO286.out) (Kd.S_base ho1) hb); replace HO289 := Aside0.mk (Kd.S_elder' (by (with_reducible repeat (first | apply Kd.S_alloc | apply Kd.S_drewN | apply Kd.S_drew)); exact HO289.out) (Kd.S_base ho2) hb); replace BK279 := Bb_ BK279 hb; replace HB := Hs_ HB hb; (try clear hb); (try clear hb2); (try clear hk); (try clear hi); (try clear ho0); (try clear ho1); (try clear ho2)) | ((with_reducible refine gate_dst (N := 9) rfl ?_); refine box_event ?hg (N := 9) ?hd (cs := #[.slice none 0 0, .slice none 0 0, .slice none 0 0]) (t := 73) ?hr ?_; (case hd => rfl); (case hg => rfl); (case hr => first | (go_simp; done) | (go_simp; rfl)); intro gb300 hg w28 hbox hb; have BK300 := Aside0.mk (hbox); have GW300 := Hg_ HB hg; have GE300 := GW300; have NB279_300 := Bl_ BK279 hg; have NB300_279 := Bm_ NB279_300; replace HO283 := Sb_ HO283 hb; replace HO286 := Sb_ HO286 hb; replace HO289 := Sb_ HO289 hb; replace HO293 := Sb_ HO293 hb; replace HO296 := Sb_ HO296 hb; replace HO299 := Sb_ HO299 hb; replace BK279 := Bb_ BK279 hb; replace HB := Hs_ HB hb; clear hb hbox hg; obtain ⟨Ao29, co29, eo29⟩ := Kd.S_slice HO293.out; subst eo29; have hnb30 := NB300_279.out; have hnc30 := NB279_300.out; obtain ⟨hcz31_0, hcz31_1, hcz31_2, hfz31_0, hfz31_1, hfz31_2⟩ := Bc3_ BK300; obtain ⟨Ao32, co32, eo32⟩ := Kd.S_slice HO296.out; subst eo32; obtain ⟨Ao33, co33, eo33⟩ := Kd.S_slice HO299.out; subst eo33) | ((with_reducible refine gate_callee (f := 52) rfl ?_); refine goesL_ (some 26) rfl rfl Try.func52 (by kernel_rfl) rfl #[.agg #[.slice Ao29 t291.length co29, .slice Ao32 t294.length co32, .slice Ao33 t297.length co33], .int .i64 a1, .int .i64 a2] rfl Mp_ ?_; (with_reducible refine (impl_Uses.calls k _ _ t291 _ _ t294 _ _ t297 a1 a2 t301 _ ?side1 ?side2 ?side3 ?side4 ?side5 ?side6 A12.out).mono ?_); (case side1 => refine (Kd.S_reads' (e := 132) (base := w.heap.size) (ok := fun k_ => (True ∧ some k_ ≠ (.slice Ao22 t281.length co22 : Value).ownBlock)) (n := t291.length) (c := co29) ?_).2.2; exact (by (with_reducible repeat (first | apply Kd.S_alloc | apply Kd.S_drewN | apply Kd.S_drew)); exact (Kd.S_mono (Kd.S_far (p := ⟨gb300, 2, none⟩) (Kd.S_far (p := ⟨gb300, 1, none⟩) (Kd.S_far (p := ⟨gb300, 0, none⟩) (Kd.S_types HO293.out BK300.out (by decide)) (fun _ hk => hk.2) (.slice Ao29 t291.length co29)) (fun _ hk => hk.2) (.slice Ao32 t294.length co32)) (fun _ hk => hk.2) (.slice Ao33 t297.length co33)) (fun _ h_ => h_.1)))); (case side2 => exact (Kd.S_reads' HO293.out).2.1); (case side3 => refine (Kd.S_reads' (e := 114) (base := w.heap.size) (ok := fun k_ => (True ∧ some k_ ≠ (.slice Ao23 t284.length co23 : Value).ownBlock)) (n := t294.length) (c := co32) ?_).2.2; exact (by (with_reducible repeat (first | apply Kd.S_alloc | apply Kd.S_drewN | apply Kd.S_drew)); exact (Kd.S_mono (Kd.S_far (p := ⟨gb300, 2, none⟩) (Kd.S_far (p := ⟨gb300, 1, none⟩) (Kd.S_far (p := ⟨gb300, 0, none⟩) (Kd.S_types HO296.out BK300.out (by decide)) (fun _ hk => hk.2) (.slice Ao29 t291.length co29)) (fun _ hk => hk.2) (.slice Ao32 t294.length co32)) (fun _ hk => hk.2) (.slice Ao33 t297.length co33)) (fun _ h_ => h_.1)))); (case side4 => exact (Kd.S_reads' HO296.out).2.1); (case side5 => refine (Kd.S_reads' (e := 130) (base := w.heap.size) (ok := fun k_ => (True ∧ some k_ ≠ (.slice Ao24 t287.length co24 : Value).ownBlock)) (n := t297.length) (c := co33) ?_).2.2; exact (by (with_reducible repeat (first | apply Kd.S_alloc | apply Kd.S_drewN | apply Kd.S_drew)); exact (Kd.S_mono (Kd.S_far (p := ⟨gb300, 2, none⟩) (Kd.S_far (p := ⟨gb300, 1, none⟩) (Kd.S_far (p := ⟨gb300, 0, none⟩) (Kd.S_types HO299.out BK300.out (by decide)) (fun _ hk => hk.2) (.slice Ao29 t291.length co29)) (fun _ hk => hk.2) (.slice Ao32 t294.length co32)) (fun _ hk => hk.2) (.slice Ao33 t297.length co33)) (fun _ h_ => h_.1)))); (case side6 => exact (Kd.S_reads' HO299.out).2.1); rintro e w34 ⟨rfl, hb⟩; refine ⟨_, rfl, ?_⟩; replace HO283 := Aside0.mk (Kd.S_below (by (with_reducible repeat (first | apply Kd.S_alloc | apply Kd.S_drewN | apply Kd.S_drew)); exact (Kd.S_mono (Kd.S_far (p := ⟨gb300, 2, none⟩) (Kd.S_far (p := ⟨gb300, 1, none⟩) (Kd.S_far (p := ⟨gb300, 0, none⟩) (Kd.S_types HO283.out BK300.out (by decide)) (fun _ hk => hk.2) (.slice Ao29 t291.length co29)) (fun _ hk => hk.2) (.slice Ao32 t294.length co32)) (fun _ hk => hk.2) (.slice Ao33 t297.length co33)) (fun _ h_ => h_.1))) hb); replace HO286 := Aside0.mk (Kd.S_below (by (with_reducible repeat (first | apply Kd.S_alloc | apply Kd.S_drewN | apply Kd.S_drew)); exact (Kd.S_mono (Kd.S_far (p := ⟨gb300, 2, none⟩) (Kd.S_far (p := ⟨gb300, 1, none⟩) (Kd.S_far (p := ⟨gb300, 0, none⟩) (Kd.S_types HO286.out BK300.out (by decide)) (fun _ hk => hk.2) (.slice Ao29 t291.length co29)) (fun _ hk => hk.2) (.slice Ao32 t294.length co32)) (fun _ hk => hk.2) (.slice Ao33 t297.length co33)) (fun _ h_ => h_.1))) hb); replace HO289 := Aside0.mk (Kd.S_below (by (with_reducible repeat (first | apply Kd.S_alloc | apply Kd.S_drewN | apply Kd.S_drew)); exact (Kd.S_mono (Kd.S_far (p := ⟨gb300, 2, none⟩) (Kd.S_far (p := ⟨gb300, 1, none⟩) (Kd.S_far (p := ⟨gb300, 0, none⟩) (Kd.S_types HO289.out BK300.out (by decide)) (fun _ hk => hk.2) (.slice Ao29 t291.length co29)) (fun _ hk => hk.2) (.slice Ao32 t294.length co32)) (fun _ hk => hk.2) (.slice Ao33 t297.length co33)) (fun _ h_ => h_.1))) hb); replace HO293 := Aside0.mk (Kd.S_below (by (with_reducible repeat (first | apply Kd.S_alloc | apply Kd.S_drewN | apply Kd.S_drew)); exact (Kd.S_mono (Kd.S_far (p := ⟨gb300, 2, none⟩) (Kd.S_far (p := ⟨gb300, 1, none⟩) (Kd.S_far (p := ⟨gb300, 0, none⟩) (Kd.S_types HO293.out BK300.out (by decide)) (fun _ hk => hk.2) (.slice Ao29 t291.length co29)) (fun _ hk => hk.2) (.slice Ao32 t294.length co32)) (fun _ hk => hk.2) (.slice Ao33 t297.length co33)) (fun _ h_ => h_.1))) hb); replace HO296 := Aside0.mk (Kd.S_below (by (with_reducible repeat (first | apply Kd.S_alloc | apply Kd.S_drewN | apply Kd.S_drew)); exact (Kd.S_mono (Kd.S_far (p := ⟨gb300, 2, none⟩) (Kd.S_far (p := ⟨gb300, 1, none⟩) (Kd.S_far (p := ⟨gb300, 0, none⟩) (Kd.S_types HO296.out BK300.out (by decide)) (fun _ hk => hk.2) (.slice Ao29 t291.length co29)) (fun _ hk => hk.2) (.slice Ao32 t294.length co32)) (fun _ hk => hk.2) (.slice Ao33 t297.length co33)) (fun _ h_ => h_.1))) hb); replace HO299 := Aside0.mk (Kd.S_below (by (with_reducible repeat (first | apply Kd.S_alloc | apply Kd.S_drewN | apply Kd.S_drew)); exact (Kd.S_mono (Kd.S_far (p := ⟨gb300, 2, none⟩) (Kd.S_far (p := ⟨gb300, 1, none⟩) (Kd.S_far (p := ⟨gb300, 0, none⟩) (Kd.S_types HO299.out BK300.out (by decide)) (fun _ hk => hk.2) (.slice Ao29 t291.length co29)) (fun _ hk => hk.2) (.slice Ao32 t294.length co32)) (fun _ hk => hk.2) (.slice Ao33 t297.length co33)) (fun _ h_ => h_.1))) hb); replace BK279 := Aside0.mk (blk_below (g := gb279) (o := .cells #[.slice A0_0 l0_0.length c0_0, .slice A0_1 l0_1.length c0_1, .slice A0_2 l0_2.length c0_2] 66 (0, 0)) (by (with_reducible repeat (first | refine blk_drewN ?_ _ | refine blk_drew ?_ | refine blk_alloc ?_ _)); refine blk_far ?_ NB279_300.out _; (with_reducible repeat (first | refine blk_drewN ?_ _ | refine blk_drew ?_ | refine blk_alloc ?_ _)); refine blk_far ?_ NB279_300.out _; (with_reducible repeat (first | refine blk_drewN ?_ _ | refine blk_drew ?_ | refine blk_alloc ?_ _)); refine blk_far ?_ NB279_300.out _; (with_reducible repeat (first | refine blk_drewN ?_ _ | refine blk_drew ?_ | refine blk_alloc ?_ _)); exact BK279.out) hb); replace BK300 := Aside0.mk (blk_below (g := gb300) (o := .cells #[.slice Ao29 t291.length co29, .slice Ao32 t294.length co32, .slice Ao33 t297.length co33] 73 (0, 0)) (by (with_reducible repeat (first | refine blk_drewN ?_ _ | refine blk_drew ?_ | refine blk_alloc ?_ _)); refine blk_put (cs := #[.slice Ao29 t291.length co29, .slice Ao32 t294.length co32, .slice none 0 0]) ?_ 2 _ rfl; (with_reducible repeat (first | refine blk_drewN ?_ _ | refine blk_drew ?_ | refine blk_alloc ?_ _)); refine blk_put (cs := #[.slice Ao29 t291.length co29, .slice none 0 0, .slice none 0 0]) ?_ 1 _ rfl; (with_reducible repeat (first | refine blk_drewN ?_ _ | refine blk_drew ?_ | refine blk_alloc ?_ _)); refine blk_put (cs := #[.slice none 0 0, .slice none 0 0, .slice none 0 0]) ?_ 0 _ rfl; (with_reducible repeat (first | refine blk_drewN ?_ _ | refine blk_drew ?_ | refine blk_alloc ?_ _)); exact BK300.out) hb); replace HB := Hs_ HB hb; (try clear hb); (try clear hb2); (try clear hk); (try clear hi)))
        have n0_ := Aside0.mk (Kd.S_drew HO283.out)
        have n1_ := Aside0.mk (Kd.S_drew HO286.out)
        have n2_ := Aside0.mk (Kd.S_drew HO289.out)
        have n3_ := Aside0.mk (Kd.S_drew HO293.out)
        have n4_ := Aside0.mk (Kd.S_drew HO296.out)
        have n5_ := Aside0.mk (Kd.S_drew HO299.out)
        have n6_ := Aside0.mk (blk_drew BK279.out)
        have n7_ := Aside0.mk (blk_drew BK300.out)
        have n8_ := Aside0.mk (below_drew1 HB.out)
        clear HO283
        clear HO286
        clear HO289
        clear HO293
        clear HO296
        clear HO299
        clear BK279
        clear BK300
        clear HB
        have HO283 := n0_
        have HO286 := n1_
        have HO289 := n2_
        have HO293 := n3_
        have HO296 := n4_
        have HO299 := n5_
        have BK279 := n6_
        have BK300 := n7_
        have HB := n8_
        clear n0_ n1_ n2_ n3_ n4_ n5_ n6_ n7_ n8_
        refine start_ (n := 5) (S := fun w' => w'.cell? ⟨gb300, 0, none⟩ = some (.slice Ao29 t291.length co29) ∧ w'.cell? ⟨gb300, 1, none⟩ = some (.slice Ao32 t294.length co32) ∧ w'.cell? ⟨gb300, 2, none⟩ = some (.slice Ao33 t297.length co33) ∧ w'.cell? ⟨gb279, 0, none⟩ = some (.slice A0_0 l0_0.length c0_0) ∧ w'.cell? ⟨gb279, 1, none⟩ = some (.slice A0_1 l0_1.length c0_1) ∧ w'.cell? ⟨gb279, 2, none⟩ = some (.slice A0_2 l0_2.length c0_2)) (ds := []) #[false, false, false, false, false] (by kernel_rfl) rfl rfl ⟨(blk_cell BK300.out 0).trans rfl, (blk_cell BK300.out 1).trans rfl, (blk_cell BK300.out 2).trans rfl, (blk_cell BK279.out 0).trans rfl, (blk_cell BK279.out 1).trans rfl, (blk_cell BK279.out 2).trans rfl⟩ (fun hHeld => ?_)
        generalize w34.drew = w35 at HO283 HO286 HO289 HO293 HO296 HO299 BK279 BK300 HB hHeld ⊢
        refine take_ (i := 0) (N := some 30) (v := ?_) (a' := ?_) #[true, false, false, false, false] rfl rfl (by kernel_rfl) (fun _ _ _ h => h) (Or.inl ⟨by rfl, ?_⟩) hHeld ?_ ?_
        rotate_left
        · rintro w' ⟨s0, s1, s2, s3, s4, s5⟩
          go_simp
          with_reducible rfl
        rotate_left
        · simp only [Act.put, List.setIfInBounds_toArray, List.set_cons_zero, List.set_cons_succ, i64_w, i32_w]
          rfl
        refine take_ (i := 1) (N := some 31) (v := ?_) (a' := ?_) #[true, true, false, false, false] rfl rfl (by kernel_rfl) (fun _ _ _ h => h) (Or.inl ⟨by rfl, ?_⟩) hHeld ?_ ?_
        rotate_left
        · rintro w' ⟨s0, s1, s2, s3, s4, s5⟩
          go_simp
          with_reducible rfl
        rotate_left
        · simp only [Act.put, List.setIfInBounds_toArray, List.set_cons_zero, List.set_cons_succ, i64_w, i32_w]
          rfl
        refine one_ (i := 2) (N := some 32) #[true, true, true, false, false] rfl rfl (by kernel_rfl) (by decide) (fun K hK => ?_)
        refine goes_ Try.func46 (by kernel_rfl) rfl #[.agg #[.slice A0_0 l0_0.length c0_0, .slice A0_1 l0_1.length c0_1, .slice A0_2 l0_2.length c0_2]] (by rfl) rfl rfl Mp_ ?_
        with_reducible refine (laws_toProgram.calls k _ _ l0_0 _ _ l0_1 _ _ l0_2 t302 t305 t308 _ ?side1 ?side2 ?side3 ?side4 ?side5 ?side6 A14.out).mono ?_
        (case side1 => exact Sc_ HR0_0 HB)
        (case side2 => exact HC0_0.out)
        (case side3 => exact Sc_ HR0_1 HB)
        (case side4 => exact HC0_1.out)
        (case side5 => exact Sc_ HR0_2 HB)
        (case side6 => exact HC0_2.out)
        rintro e w36 ⟨v303, v306, v309, rfl, ho0, ho1, ho2, hb⟩
        refine ⟨_, rfl, ?_⟩
        have n0_ := Aside0.mk (Kd.S_elder' (by (with_reducible repeat (first | apply Kd.S_alloc | apply Kd.S_drewN | apply Kd.S_drew)); exact HO283.out) (Kd.S_base ho0) hb)
        have n1_ := Aside0.mk (Kd.S_elder' (by (with_reducible repeat (first | apply Kd.S_alloc | apply Kd.S_drewN | apply Kd.S_drew)); exact HO286.out) (Kd.S_base ho1) hb)
        have n2_ := Aside0.mk (Kd.S_elder' (by (with_reducible repeat (first | apply Kd.S_alloc | apply Kd.S_drewN | apply Kd.S_drew)); exact HO289.out) (Kd.S_base ho2) hb)
        have n3_ := Aside0.mk (Kd.S_elder' (by (with_reducible repeat (first | apply Kd.S_alloc | apply Kd.S_drewN | apply Kd.S_drew)); exact HO293.out) (Kd.S_base ho0) hb)
        have n4_ := Aside0.mk (Kd.S_elder' (by (with_reducible repeat (first | apply Kd.S_alloc | apply Kd.S_drewN | apply Kd.S_drew)); exact HO296.out) (Kd.S_base ho1) hb)
        have n5_ := Aside0.mk (Kd.S_elder' (by (with_reducible repeat (first | apply Kd.S_alloc | apply Kd.S_drewN | apply Kd.S_drew)); exact HO299.out) (Kd.S_base ho2) hb)
        have n6_ := Aside0.mk (Kd.S_lower (Kd.S_new' (Kd.S_new' ho0 (Kd.S_lt (by (with_reducible repeat (first | apply Kd.S_alloc | apply Kd.S_drewN | apply Kd.S_drew)); exact HO283.out))) (Kd.S_lt (by (with_reducible repeat (first | apply Kd.S_alloc | apply Kd.S_drewN | apply Kd.S_drew)); exact HO293.out))) (below_size (by repeat (first | (with_reducible first | exact HB.out | apply below_alloc | apply pw_below_drewN | apply below_drew1 | refine below_set ?_ GE279.out | refine below_set ?_ GE300.out) | exact HB.out))))
        have n7_ := Aside0.mk (Kd.S_lower (Kd.S_new' (Kd.S_new' ho1 (Kd.S_lt (by (with_reducible repeat (first | apply Kd.S_alloc | apply Kd.S_drewN | apply Kd.S_drew)); exact HO286.out))) (Kd.S_lt (by (with_reducible repeat (first | apply Kd.S_alloc | apply Kd.S_drewN | apply Kd.S_drew)); exact HO296.out))) (below_size (by repeat (first | (with_reducible first | exact HB.out | apply below_alloc | apply pw_below_drewN | apply below_drew1 | refine below_set ?_ GE279.out | refine below_set ?_ GE300.out) | exact HB.out))))
        have n8_ := Aside0.mk (Kd.S_lower (Kd.S_new' (Kd.S_new' ho2 (Kd.S_lt (by (with_reducible repeat (first | apply Kd.S_alloc | apply Kd.S_drewN | apply Kd.S_drew)); exact HO289.out))) (Kd.S_lt (by (with_reducible repeat (first | apply Kd.S_alloc | apply Kd.S_drewN | apply Kd.S_drew)); exact HO299.out))) (below_size (by repeat (first | (with_reducible first | exact HB.out | apply below_alloc | apply pw_below_drewN | apply below_drew1 | refine below_set ?_ GE279.out | refine below_set ?_ GE300.out) | exact HB.out))))
        have n9_ := Bb_ BK279 hb
        have n10_ := Bb_ BK300 hb
        have n11_ := Hs_ HB hb
        clear HO283
        clear HO286
        clear HO289
        clear HO293
        clear HO296
        clear HO299
        clear BK279
        clear BK300
        clear HB
        have HO283 := n0_
        have HO286 := n1_
        have HO289 := n2_
        have HO293 := n3_
        have HO296 := n4_
        have HO299 := n5_
        have HO304 := n6_
        have HO307 := n7_
        have HO310 := n8_
        have BK279 := n9_
        have BK300 := n10_
        have HB := n11_
        clear n0_ n1_ n2_ n3_ n4_ n5_ n6_ n7_ n8_ n9_ n10_ n11_
        (try clear hb)
        (try clear hb2)
        (try clear hk)
        (try clear hi)
        (try clear ho0)
        (try clear ho1)
        (try clear ho2)
        obtain ⟨Ao37, co37, eo37⟩ := Kd.S_slice HO304.out
        (first | subst eo37 | (injection eo37 with f1_ f2_ f3_; have f4_ := f1_.symm; have f5_ := f3_.symm; clear f1_ f2_ f3_; subst f4_; subst f5_))
        obtain ⟨Ao38, co38, eo38⟩ := Kd.S_slice HO307.out
        (first | subst eo38 | (injection eo38 with f1_ f2_ f3_; have f4_ := f1_.symm; have f5_ := f3_.symm; clear f1_ f2_ f3_; subst f4_; subst f5_))
        obtain ⟨Ao39, co39, eo39⟩ := Kd.S_slice HO310.out
        (first | subst eo39 | (injection eo39 with f1_ f2_ f3_; have f4_ := f1_.symm; have f5_ := f3_.symm; clear f1_ f2_ f3_; subst f4_; subst f5_))
        refine hK.out _ _ ⟨(blk_cell BK300.out 0).trans rfl, (blk_cell BK300.out 1).trans rfl, (blk_cell BK300.out 2).trans rfl, (blk_cell BK279.out 0).trans rfl, (blk_cell BK279.out 1).trans rfl, (blk_cell BK279.out 2).trans rfl⟩ (fun hHeld => ?_)
        clear hK K
        refine norm_ (a' := ?_) ?_ ?_
        rotate_left
        · show Act.put _ (some 32) _ = _
          simp only [Act.put, List.setIfInBounds_toArray, List.set_cons_zero, List.set_cons_succ, i64_w, i32_w]
          rfl
        refine one_ (i := 3) (N := some 33) #[true, true, true, true, false] rfl rfl (by kernel_rfl) (by decide) (fun K hK => ?_)
        refine goes_ Try.func48 (by kernel_rfl) rfl #[.agg #[.slice Ao29 t291.length co29, .slice Ao32 t294.length co32, .slice Ao33 t297.length co33], .agg #[.slice Ao37 t302.length co37, .slice Ao38 t305.length co38, .slice Ao39 t308.length co39]] (by rfl) rfl rfl Mp_ ?_
        with_reducible refine (laws_eqProgram.calls k _ _ t291 _ _ t294 _ _ t297 _ _ t302 _ _ t305 _ _ t308 true _ ?side1 ?side2 ?side3 ?side4 ?side5 ?side6 ?side7 ?side8 ?side9 ?side10 ?side11 ?side12 A15.out).mono ?_
        (case side1 => repeat (first | exact (Kd.S_reads' HO293.out).2.2 | (with_reducible refine Kd.C_alloc ?_ _) | (with_reducible refine Kd.C_drewN ?_ _) | (with_reducible refine Kd.C_drew ?_)))
        (case side2 => exact (Kd.S_reads' HO293.out).2.1)
        (case side3 => repeat (first | exact (Kd.S_reads' HO296.out).2.2 | (with_reducible refine Kd.C_alloc ?_ _) | (with_reducible refine Kd.C_drewN ?_ _) | (with_reducible refine Kd.C_drew ?_)))
        (case side4 => exact (Kd.S_reads' HO296.out).2.1)
        (case side5 => repeat (first | exact (Kd.S_reads' HO299.out).2.2 | (with_reducible refine Kd.C_alloc ?_ _) | (with_reducible refine Kd.C_drewN ?_ _) | (with_reducible refine Kd.C_drew ?_)))
        (case side6 => exact (Kd.S_reads' HO299.out).2.1)
        (case side7 => repeat (first | exact (Kd.S_reads' HO304.out).2.2 | (with_reducible refine Kd.C_alloc ?_ _) | (with_reducible refine Kd.C_drewN ?_ _) | (with_reducible refine Kd.C_drew ?_)))
        (case side8 => exact (Kd.S_reads' HO304.out).2.1)
        (case side9 => repeat (first | exact (Kd.S_reads' HO307.out).2.2 | (with_reducible refine Kd.C_alloc ?_ _) | (with_reducible refine Kd.C_drewN ?_ _) | (with_reducible refine Kd.C_drew ?_)))
        (case side10 => exact (Kd.S_reads' HO307.out).2.1)
        (case side11 => repeat (first | exact (Kd.S_reads' HO310.out).2.2 | (with_reducible refine Kd.C_alloc ?_ _) | (with_reducible refine Kd.C_drewN ?_ _) | (with_reducible refine Kd.C_drew ?_)))
        (case side12 => exact (Kd.S_reads' HO310.out).2.1)
        rintro e w40 ⟨rfl, hb⟩
        refine ⟨_, rfl, ?_⟩
        have n0_ := Sb_ HO283 hb
        have n1_ := Sb_ HO286 hb
        have n2_ := Sb_ HO289 hb
        have n3_ := Sb_ HO293 hb
        have n4_ := Sb_ HO296 hb
        have n5_ := Sb_ HO299 hb
        have n6_ := Sb_ HO304 hb
        have n7_ := Sb_ HO307 hb
        have n8_ := Sb_ HO310 hb
        have n9_ := Bb_ BK279 hb
        have n10_ := Bb_ BK300 hb
        have n11_ := Hs_ HB hb
        clear HO283
        clear HO286
        clear HO289
        clear HO293
        clear HO296
        clear HO299
        clear HO304
        clear HO307
        clear HO310
        clear BK279
        clear BK300
        clear HB
        have HO283 := n0_
        have HO286 := n1_
        have HO289 := n2_
        have HO293 := n3_
        have HO296 := n4_
        have HO299 := n5_
        have HO304 := n6_
        have HO307 := n7_
        have HO310 := n8_
        have BK279 := n9_
        have BK300 := n10_
        have HB := n11_
        clear n0_ n1_ n2_ n3_ n4_ n5_ n6_ n7_ n8_ n9_ n10_ n11_
        (try clear hb)
        (try clear hb2)
        (try clear hk)
        (try clear hi)
        refine hK.out _ _ ⟨(blk_cell BK300.out 0).trans rfl, (blk_cell BK300.out 1).trans rfl, (blk_cell BK300.out 2).trans rfl, (blk_cell BK279.out 0).trans rfl, (blk_cell BK279.out 1).trans rfl, (blk_cell BK279.out 2).trans rfl⟩ (fun hHeld => ?_)
        clear hK K
        refine norm_ (a' := ?_) ?_ ?_
        rotate_left
        · show Act.put _ (some 33) _ = _
          simp only [Act.put, List.setIfInBounds_toArray, List.set_cons_zero, List.set_cons_succ, i64_w, i32_w]
          rfl
        refine pure_ (i := 4) (N := some 34) (v := ?_) (a' := ?_) #[true, true, true, true, true] rfl rfl (by kernel_rfl) (fun _ _ _ h => h) (Or.inl ⟨by rfl, ?_⟩) ?_ ?_
        rotate_left
        · intro w'
          go_simp
          with_reducible rfl
        rotate_left
        · simp only [Act.put, List.setIfInBounds_toArray, List.set_cons_zero, List.set_cons_succ, i64_w, i32_w]
          rfl
        refine done_ (by kernel_rfl) ?_
        try go_wp2
        go_ret
        exact ⟨Re_, Hf_ HB⟩
      · replace c16 := Bool.eq_false_iff.mpr c16
        subst c16
        have H1 : (some false) = some r := by rw [if_neg (show ¬ (false = true) by decide)] at H; exact H
        clear H
        have H := H1
        clear H1
        exact absurd (Option.some.inj H) (by rw [hlaw_.out]; decide)

end Go.Proofs.Ytegeahiflkjhmaa.PFnExactUses
