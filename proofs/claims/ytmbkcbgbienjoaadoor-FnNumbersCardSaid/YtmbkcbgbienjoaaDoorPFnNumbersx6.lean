/- The machine side of the law FnNumbers: for each function that it reaches, a Lean function and its contract. Written by a program of this session's over the kit's print. No condition. -/
import Derived.Test.YtmbkcbgbienjoaaDoorCmq
import Derived.Test.YtmbkcbgbienjoaaDoorPFnNumbersx0
import Derived.Test.YtmbkcbgbienjoaaDoorPFnNumbersx1
import Derived.Test.YtmbkcbgbienjoaaDoorPFnNumbersx3
import Derived.Test.YtmbkcbgbienjoaaDoorPFnNumbersx4
import Derived.Test.YtmbkcbgbienjoaaDoorPFnNumbersx5
namespace Go.Proofs.YtmbkcbgbienjoaaDoor.PFnNumbers
open Go.RowKit Go.Proofs.YtmbkcbgbienjoaaDoorW.PrintWords Go.Proofs.YtmbkcbgbienjoaaDoorW.PrintLast Go.Proofs.YtmbkcbgbienjoaaDoorW.PrintMore Go.Proofs.YtmbkcbgbienjoaaDoor.Cmp
attribute [local go_sem] max2_int min2_int max_two min_two max_three min_three max_four min_four   -- for this text's walks alone
set_option linter.unusedVariables false
set_option maxHeartbeats 8000000
set_option maxRecDepth 100000
set_option linter.unusedSimpArgs false

/-! ### laws_FnNumbers: function 4 -/
mutual
def laws_FnNumbers.j0 : Nat → List Int → Int → Bool → Option (Bool)
 | 0, _, _, _ => none
 | k + 1, x0, x3, x30 => if x30 = true then (laws_FnNumbers.j1 k x0 12345) else (laws_FnNumbers.j1 k x0 x3)
def laws_FnNumbers.j1 : Nat → List Int → Int → Option (Bool)
 | 0, _, _ => none
 | k + 1, x0, x3 => (impl_VarText.f k x3).bind fun bt241 => (if 1 + bt241.1.size ≤ 9223372036854775807 then (if ((⟨#[120]⟩ : ByteArray) ++ bt241.1).size + 1 ≤ 9223372036854775807 then ((impl_ReadVar.f k (((⟨#[120]⟩ : ByteArray) ++ bt241.1) ++ (⟨#[121]⟩ : ByteArray)) 1).bind fun bt243 => ((impl_Decimal.f k x3).bind fun t246 => ((impl_ReadDecimal.f k t246).bind fun bt247 => ((spec_DrawHex.f k x0).bind fun t249 => (if (t249.size : Int) > 300 then (laws_FnNumbers.j2 k x3 bt241.1 bt241.2 bt243.1 bt243.2.1 bt243.2.2 bt247.1 bt247.2 (⟨#[97, 98, 99]⟩ : ByteArray)) else (laws_FnNumbers.j2 k x3 bt241.1 bt241.2 bt243.1 bt243.2.1 bt243.2.2 bt247.1 bt247.2 t249)))))) else (none)) else (none))
def laws_FnNumbers.j2 : Nat → Int → ByteArray → Bool → Int → Int → Bool → Int → Bool → ByteArray → Option (Bool)
 | 0, _, _, _, _, _, _, _, _, _ => none
 | k + 1, x3, x4, x5, x6, x7, x8, x9, x10, x11 => (impl_ShortText.f k x11).bind fun bt250 => ((impl_ReadShort.f k bt250.1 0).bind fun bt252 => ((impl_Hex.f k x11).bind fun bt255 => ((impl_Unhex.f k bt255.1).bind fun bt257 => (if x5 = true then (if x8 = true then (if x10 = true then (if bt250.2 = true then (if bt252.2.2 = true then (if bt255.2 = true then (if bt257.2 = true then (if x6 = x3 then (if x9 = x3 then (if x7 = (wrap64 ((x4.size : Int) + 1)) then (if bt252.1.toList = x11.toList then (if bt252.2.1 = (bt250.1.size : Int) then (some (bt257.1.toList == x11.toList)) else (some false)) else (some false)) else (some false)) else (some false)) else (some false)) else (some false)) else (some false)) else (some false)) else (some false)) else (some false)) else (some false)) else (some false)))))
end
def laws_FnNumbers.f (k : Nat) (l0 : List Int) : Option (Bool) := (laws_big.f l0).bind fun t239 => (if t239 = true then (some true) else ((spec_DrawVarText.f k l0).bind fun t240 => (if t240 < 0 then (laws_FnNumbers.j0 k l0 t240 true) else (laws_FnNumbers.j0 k l0 t240 (decide (t240 > 1000000000))))))
theorem laws_FnNumbers.calls (k : Nat) (A0 : Option Addr) (c0 : Nat) (l0 : List Int) (r : Bool) (w : World) (hr0 : Kd.C (Kd.int .u8) w A0 l0.length l0) (hc0 : l0.length ≤ c0) (hlaw_ : Aside0 (r = true)) (h : laws_FnNumbers.f k l0 = some r) (HTAB : Aside0 (VarsOk w)) :
  Calls Tryd.prog 4 #[.slice A0 l0.length c0] w fun e w' => e = .returned (.bool r) ∧ Below w.heap.size w w' := by
 have HR0 := Aside0.mk hr0
 have HC0 := Aside0.mk hc0
 clear hr0 hc0
 have HB := Aside0.mk (Below.refl w.heap.size w)
 have H : ((laws_big.f l0).bind fun t239 => (if t239 = true then (some true) else ((spec_DrawVarText.f k l0).bind fun t240 => (if t240 < 0 then (laws_FnNumbers.j0 k l0 t240 true) else (laws_FnNumbers.j0 k l0 t240 (decide (t240 > 1000000000))))))) = some r := h
 clear h
 obtain ⟨t239, A2, H⟩ := Bo_ H
 by_cases c3 : t239 = true
 ·subst c3
  rw [if_pos rfl] at H
  obtain rfl := Option.some.inj H
  go_enter Tryd.func4, Tryd.ntmps4
  go_wp2_with (first | ((with_reducible refine gate_callee (f := 7) rfl ?_); refine goesL_ (some 22) rfl rfl Tryd.func7 (by kernel_rfl) rfl #[.slice A0 l0.length c0] rfl Mp_ ?_; (with_reducible refine (laws_big.calls _ _ l0 true _ ?side1 ?side2 A2.out).mono ?_); (case side1 => repeat (first | exact HR0.out | (with_reducible refine Kd.C_alloc ?_ _) | (with_reducible refine Kd.C_drewN ?_ _) | (with_reducible refine Kd.C_drew ?_))); (case side2 => exact HC0.out); rintro e w' ⟨rfl, ⟨nd, rfl⟩⟩; refine ⟨_, rfl, ?_⟩))
  go_ret
  exact ⟨Re_, Hf_ HB⟩
 ·replace c3 := Bool.eq_false_iff.mpr c3
  subst c3
  rw [if_neg Ff_] at H
  obtain ⟨t240, A4, H⟩ := Bo_ H
  have HC5 := Aside0.mk H
  clear H
  go_enter Tryd.func4, Tryd.ntmps4
  go_upto_region 4 with (first | ((with_reducible refine gate_callee (f := 7) rfl ?_); refine goesL_ (some 22) rfl rfl Tryd.func7 (by kernel_rfl) rfl #[.slice A0 l0.length c0] rfl Mp_ ?_; (with_reducible refine (laws_big.calls _ _ l0 false _ ?side1 ?side2 A2.out).mono ?_); (case side1 => repeat (first | exact HR0.out | (with_reducible refine Kd.C_alloc ?_ _) | (with_reducible refine Kd.C_drewN ?_ _) | (with_reducible refine Kd.C_drew ?_))); (case side2 => exact HC0.out); rintro e w' ⟨rfl, ⟨nd, rfl⟩⟩; refine ⟨_, rfl, ?_⟩) | ((with_reducible refine gate_callee (f := 8) rfl ?_); refine goesL_ (some 24) rfl rfl Tryd.func8 (by kernel_rfl) rfl #[.slice A0 l0.length c0] rfl Mp_ ?_; (with_reducible refine (spec_DrawVarText.calls k _ _ l0 t240 _ ?side1 ?side2 A4.out).mono ?_); (case side1 => repeat (first | exact HR0.out | (with_reducible refine Kd.C_alloc ?_ _) | (with_reducible refine Kd.C_drewN ?_ _) | (with_reducible refine Kd.C_drew ?_))); (case side2 => exact HC0.out); rintro e w6 ⟨rfl, hb⟩; refine ⟨_, rfl, ?_⟩; replace HB := Hs_ HB hb; clear hb))
  (try simp only [Act.put, List.setIfInBounds_toArray, List.set_cons_zero, List.set_cons_succ])
  go_cut [30] (fun v30 wc => ∃ (kq : Nat) (x30_4 : Bool), v30 = .bool x30_4 ∧ Aside0 (laws_FnNumbers.j0 kq l0 t240 x30_4 = some r) ∧ Aside0 (kq ≤ k) ∧ Aside0 (Below w.heap.size w wc))
  case first =>
   have H := HC5.out
   clear HC5
   by_cases c7 : t240 < 0
   ·rw [if_pos c7] at H
    have c7b0 := decide_eq_true c7
    clear c7
    (first | rw [c7b0] | (simp only [i64_w, i32_w]; rw [c7b0]) | skip)
    have H' := Aside0.mk H
    clear H
    go_wp2
    go_meet
    case rel => exact ⟨_, (true), Rr_, H', ⟨by first | omega | exact Nat.le_refl _⟩, ⟨Hf_ HB⟩⟩
   ·rw [if_neg c7] at H
    have c7b0 := decide_eq_false c7
    clear c7
    (first | rw [c7b0] | (simp only [i64_w, i32_w]; rw [c7b0]) | skip)
    have H' := Aside0.mk H
    clear H
    go_wp2
    go_meet
    case rel => exact ⟨_, (decide (t240 > 1000000000)), Rr_, H', ⟨by first | omega | exact Nat.le_refl _⟩, ⟨Hf_ HB⟩⟩
  case rest =>
   clear HC5
   try clear p2
   try clear c3
   try clear c4
   try clear c7
   try clear c7b0
   obtain ⟨kq, x30_4, rfl, HA, HJ4, HB⟩ := hcut
   cases kq with
   | zero => exact absurd HA.out (by simp [laws_FnNumbers.j0])
   | succ kj4 =>
    have H := HA.out
    clear HA
    simp only [laws_FnNumbers.j0] at H
    have HC8 := Aside0.mk H
    clear H
    go_upto_if 30 with (fail)
    go_cut [3] (fun v3 wc => ∃ (kq : Nat) (x3_7 : Int), v3 = .int .i64 x3_7 ∧ Aside0 (laws_FnNumbers.j1 kq l0 x3_7 = some r) ∧ Aside0 (kq ≤ kj4) ∧ Aside0 (Below w.heap.size w wc))
    case first =>
     have H := HC8.out
     clear HC8
     by_cases c9 : x30_4 = true
     ·subst c9
      rw [if_pos rfl] at H
      have H' := Aside0.mk H
      clear H
      go_wp2
      go_meet
      case rel => exact ⟨_, (12345), Rr_, H', ⟨by have := HJ4.out; first | omega | exact Nat.le_refl _⟩, ⟨Hf_ HB⟩⟩
     ·replace c9 := Bool.eq_false_iff.mpr c9
      subst c9
      rw [if_neg Ff_] at H
      have H' := Aside0.mk H
      clear H
      go_wp2
      go_meet
      case rel => exact ⟨_, (t240), Rr_, H', ⟨by have := HJ4.out; first | omega | exact Nat.le_refl _⟩, ⟨Hf_ HB⟩⟩
    case rest =>
     clear HC8
     try clear p2
     try clear c3
     try clear c4
     try clear c7
     try clear c7b0
     try clear c8
     try clear c9
     try clear p2
     obtain ⟨kq, x3_7, rfl, HA, HJ7, HB⟩ := hcut
     cases kq with
     | zero => exact absurd HA.out (by simp [laws_FnNumbers.j1])
     | succ kj7 =>
      have H := HA.out
      clear HA
      simp only [laws_FnNumbers.j1] at H
      obtain ⟨⟨t241, t242⟩, A10, H⟩ := Bo_ H
      try dsimp only at H
      by_cases c11 : 1 + t241.size ≤ 9223372036854775807
      ·rw [if_pos c11] at H
       have c11b0 := eq_true c11
       have c11b1 := decide_eq_true c11
       try have c11b2 : (9223372036854775807 < 1 + t241.size) = False := eq_false (Nat.not_lt.2 c11)
       by_cases c12 : ((⟨#[120]⟩ : ByteArray) ++ t241).size + 1 ≤ 9223372036854775807
       ·rw [if_pos c12] at H
        have c12b0 := eq_true c12
        have c12b1 := decide_eq_true c12
        try have c12b2 : (9223372036854775807 < ((⟨#[120]⟩ : ByteArray) ++ t241).size + 1) = False := eq_false (Nat.not_lt.2 c12)
        have c12b8 : 1 + t241.size + 1 ≤ 9223372036854775807 := by have h_ := c12; rw [ByteArray.size_append] at h_; exact h_
        have c12b9 : (9223372036854775807 < 1 + t241.size + 1) = False := eq_false (Nat.not_lt.2 c12b8)
        obtain ⟨⟨t243, t244, t245⟩, A13, H⟩ := Bo_ H
        try dsimp only at H
        obtain ⟨t246, A14, H⟩ := Bo_ H
        obtain ⟨⟨t247, t248⟩, A15, H⟩ := Bo_ H
        try dsimp only at H
        obtain ⟨t249, A16, H⟩ := Bo_ H
        have HC17 := Aside0.mk H
        clear H
        go_upto_if 54 with (first | (refine Gl_ (some 33) Tryd.func9 ((impl_VarText.calls kj7 x3_7 t241 t242 _ A10.out).mono ?_); rintro e w18 ⟨rfl, hb⟩; refine ⟨_, rfl, ?_⟩; replace HB := Hs_ HB hb; clear hb) | (refine Gl_ (some 40) Tryd.func10 ((impl_ReadVar.calls kj7 (((⟨#[120]⟩ : ByteArray) ++ t241) ++ (⟨#[121]⟩ : ByteArray)) 1 t243 t244 t245 _ A13.out).mono ?_); rintro e w19 ⟨rfl, hb⟩; refine ⟨_, rfl, ?_⟩; replace HB := Hs_ HB hb; clear hb) | (refine Gl_ (some 46) Tryd.func11 ((impl_Decimal.calls kj7 x3_7 t246 _ A14.out).mono ?_); rintro e w20 ⟨rfl, hb⟩; refine ⟨_, rfl, ?_⟩; replace HB := Hs_ HB hb; clear hb) | (refine Gl_ (some 47) Tryd.func6 ((impl_ReadDecimal.calls kj7 t246 t247 t248 _ A15.out).mono ?_); rintro e w21 ⟨rfl, hb⟩; refine ⟨_, rfl, ?_⟩; replace HB := Hs_ HB hb; clear hb) | (refine Gl_ (some 51) Tryd.func12 ((spec_DrawHex.calls kj7 _ _ l0 t249 _ (Sc_ HR0 HB) HC0.out A16.out).mono ?_); rintro e w22 ⟨rfl, hb⟩; refine ⟨_, rfl, ?_⟩; replace HB := Hs_ HB hb; clear hb))
        (try simp only [Act.put, List.setIfInBounds_toArray, List.set_cons_zero, List.set_cons_succ])
        go_cut [11] (fun v11 wc => ∃ (kq : Nat) (x11_16 : ByteArray), v11 = .string x11_16 ∧ Aside0 (laws_FnNumbers.j2 kq x3_7 t241 t242 t243 t244 t245 t247 t248 x11_16 = some r) ∧ Aside0 (kq ≤ kj7) ∧ Aside0 (Below w.heap.size w wc))
        case first =>
         have H := HC17.out
         clear HC17
         by_cases c23 : (t249.size : Int) > 300
         ·rw [if_pos c23] at H
          have c23b0 : decide (300 < (t249.size : Int)) = true := decide_eq_true c23
          have c23b1 : decide (300 < t249.size) = true := decide_eq_true (by omega)
          clear c23
          (first | rw [c23b0] | (simp only [i64_w, i32_w]; rw [c23b0]) | skip)
          have H' := Aside0.mk H
          clear H
          go_wp2
          go_meet
          case rel => exact ⟨_, ((⟨#[97, 98, 99]⟩ : ByteArray)), Rr_, H', ⟨by have := HJ4.out; have := HJ7.out; first | omega | exact Nat.le_refl _⟩, ⟨Hf_ HB⟩⟩
         ·rw [if_neg c23] at H
          have c23b0 : decide (300 < (t249.size : Int)) = false := decide_eq_false c23
          have c23b1 : decide (300 < t249.size) = false := decide_eq_false (by omega)
          clear c23
          (first | rw [c23b0] | (simp only [i64_w, i32_w]; rw [c23b0]) | skip)
          have H' := Aside0.mk H
          clear H
          go_wp2
          go_meet
          case rel => exact ⟨_, (t249), Rr_, H', ⟨by have := HJ4.out; have := HJ7.out; first | omega | exact Nat.le_refl _⟩, ⟨Hf_ HB⟩⟩
        case rest =>
         clear HC17
         try clear c1
         try clear c2
         try clear p2
         try clear c3
         try clear c4
         try clear c6
         try clear c7
         try clear c7b0
         try clear c8
         try clear c9
         try clear c10
         try clear c11
         try clear c11b0
         try clear c11b1
         try clear c11b2
         try clear c12
         try clear c12b0
         try clear c12b1
         try clear c12b2
         try clear c23
         try clear c23b0
         try clear c23b1
         try clear p2
         obtain ⟨kq, x11_16, rfl, HA, HJ16, HB⟩ := hcut
         cases kq with
         | zero => exact absurd HA.out (by simp [laws_FnNumbers.j2])
         | succ kj16 =>
          have H := HA.out
          clear HA
          simp only [laws_FnNumbers.j2] at H
          obtain ⟨⟨t250, t251⟩, A24, H⟩ := Bo_ H
          try dsimp only at H
          obtain ⟨⟨t252, t253, t254⟩, A25, H⟩ := Bo_ H
          try dsimp only at H
          obtain ⟨⟨t255, t256⟩, A26, H⟩ := Bo_ H
          try dsimp only at H
          obtain ⟨⟨t257, t258⟩, A27, H⟩ := Bo_ H
          try dsimp only at H
          by_cases c28 : t242 = true
          ·subst c28
           rw [if_pos rfl] at H
           by_cases c29 : t245 = true
           ·subst c29
            rw [if_pos rfl] at H
            by_cases c30 : t248 = true
            ·subst c30
             rw [if_pos rfl] at H
             by_cases c31 : t251 = true
             ·subst c31
              rw [if_pos rfl] at H
              by_cases c32 : t254 = true
              ·subst c32
               rw [if_pos rfl] at H
               by_cases c33 : t256 = true
               ·subst c33
                rw [if_pos rfl] at H
                by_cases c34 : t258 = true
                ·subst c34
                 rw [if_pos rfl] at H
                 by_cases c35 : t243 = x3_7
                 ·rw [if_pos c35] at H
                  have c35b0 := beq_iff_eq.mpr c35
                  have c35b1 := bne_eq_false_iff_eq.mpr c35
                  clear c35
                  by_cases c36 : t247 = x3_7
                  ·rw [if_pos c36] at H
                   have c36b0 := beq_iff_eq.mpr c36
                   have c36b1 := bne_eq_false_iff_eq.mpr c36
                   clear c36
                   by_cases c37 : t244 = (wrap64 ((t241.size : Int) + 1))
                   ·rw [if_pos c37] at H
                    have c37b0 := beq_iff_eq.mpr c37
                    have c37b1 := bne_eq_false_iff_eq.mpr c37
                    have c37b8 : t244 = (t241.size : Int) + 1 := by have h_ := c37; unfold wrap64 at h_; omega
                    clear c37
                    by_cases c38 : t252.toList = x11_16.toList
                    ·rw [if_pos c38] at H
                     have c38b0 := beq_iff_eq.mpr c38
                     have c38b1 := bne_eq_false_iff_eq.mpr c38
                     clear c38
                     by_cases c39 : t253 = (t250.size : Int)
                     ·rw [if_pos c39] at H
                      have c39b0 := beq_iff_eq.mpr c39
                      have c39b1 := bne_eq_false_iff_eq.mpr c39
                      clear c39
                      obtain rfl := Option.some.inj H
                      go_wp2_with (first | (refine Gl_ (some 57) Tryd.func13 ((impl_ShortText.calls kj16 x11_16 t250 true _ A24.out).mono ?_); rintro e w40 ⟨rfl, hb⟩; refine ⟨_, rfl, ?_⟩; replace HB := Hs_ HB hb; clear hb) | (refine Gl_ (some 62) Tryd.func14 ((impl_ReadShort.calls kj16 t250 0 t252 t253 true _ A25.out).mono ?_); rintro e w41 ⟨rfl, hb⟩; refine ⟨_, rfl, ?_⟩; replace HB := Hs_ HB hb; clear hb) | (refine Gl_ (some 68) Tryd.func15 ((impl_Hex.calls kj16 x11_16 t255 true _ A26.out).mono ?_); rintro e w42 ⟨rfl, hb⟩; refine ⟨_, rfl, ?_⟩; replace HB := Hs_ HB hb; clear hb) | (refine Gl_ (some 73) Tryd.func16 ((impl_Unhex.calls kj16 t255 t257 true _ A27.out).mono ?_); rintro e w43 ⟨rfl, hb⟩; refine ⟨_, rfl, ?_⟩; replace HB := Hs_ HB hb; clear hb))
                      go_ret
                      exact ⟨Re_, Hf_ HB⟩
                     ·rw [if_neg c39] at H
                      have c39b0 := beq_eq_false_iff_ne.mpr c39
                      have c39b1 := bne_iff_ne.mpr c39
                      exact absurd (Option.some.inj H) (by rw [hlaw_.out]; decide)
                    ·rw [if_neg c38] at H
                     have c38b0 := beq_eq_false_iff_ne.mpr c38
                     have c38b1 := bne_iff_ne.mpr c38
                     exact absurd (Option.some.inj H) (by rw [hlaw_.out]; decide)
                   ·rw [if_neg c37] at H
                    have c37b0 := beq_eq_false_iff_ne.mpr c37
                    have c37b1 := bne_iff_ne.mpr c37
                    exact absurd (Option.some.inj H) (by rw [hlaw_.out]; decide)
                  ·rw [if_neg c36] at H
                   have c36b0 := beq_eq_false_iff_ne.mpr c36
                   have c36b1 := bne_iff_ne.mpr c36
                   exact absurd (Option.some.inj H) (by rw [hlaw_.out]; decide)
                 ·rw [if_neg c35] at H
                  have c35b0 := beq_eq_false_iff_ne.mpr c35
                  have c35b1 := bne_iff_ne.mpr c35
                  exact absurd (Option.some.inj H) (by rw [hlaw_.out]; decide)
                ·replace c34 := Bool.eq_false_iff.mpr c34
                 subst c34
                 rw [if_neg Ff_] at H
                 exact absurd (Option.some.inj H) (by rw [hlaw_.out]; decide)
               ·replace c33 := Bool.eq_false_iff.mpr c33
                subst c33
                rw [if_neg Ff_] at H
                exact absurd (Option.some.inj H) (by rw [hlaw_.out]; decide)
              ·replace c32 := Bool.eq_false_iff.mpr c32
               subst c32
               rw [if_neg Ff_] at H
               exact absurd (Option.some.inj H) (by rw [hlaw_.out]; decide)
             ·replace c31 := Bool.eq_false_iff.mpr c31
              subst c31
              rw [if_neg Ff_] at H
              exact absurd (Option.some.inj H) (by rw [hlaw_.out]; decide)
            ·replace c30 := Bool.eq_false_iff.mpr c30
             subst c30
             rw [if_neg Ff_] at H
             exact absurd (Option.some.inj H) (by rw [hlaw_.out]; decide)
           ·replace c29 := Bool.eq_false_iff.mpr c29
            subst c29
            rw [if_neg Ff_] at H
            exact absurd (Option.some.inj H) (by rw [hlaw_.out]; decide)
          ·replace c28 := Bool.eq_false_iff.mpr c28
           subst c28
           rw [if_neg Ff_] at H
           exact absurd (Option.some.inj H) (by rw [hlaw_.out]; decide)
       ·rw [if_neg c12] at H
        exact absurd H (by simp)
      ·rw [if_neg c11] at H
       exact absurd H (by simp)

/-- THE ONE PURE STATEMENT of laws_FnNumbers: yours. -/
def laws_FnNumbers.Pure : Prop := ∀ (l0 : List Int), l0.length ≤ maxLen → l0.length * 1 ≤ 140737488351232 → (∀ x ∈ l0, (Lit.int .u8 x).wf = true) → ∃ k, laws_FnNumbers.f k l0 = some true
theorem laws_FnNumbers.walk (P : laws_FnNumbers.Pure) (a0 : Option Addr) (len0 cap0 : Nat) (z0 : List Int) (w : World) (w0 : (a0 = none ∧ len0 = 0 ∧ cap0 = 0 ∧ z0 = []) ∨ ∃ x, a0 = some x ∧ len0 ≤ cap0 ∧ cap0 ≤ maxLen ∧ z0.length = cap0 ∧ (∀ i, i < z0.length → w.cell? (x.add i) = some (.int .u8 (z0.getD i 0))) ∧ ∀ n ∈ z0, (Lit.int .u8 n).wf = true) (y0 : len0 * 1 ≤ 140737488351232) (HTAB : Aside0 (VarsOk w)) :
  Calls Tryd.prog 4 #[.slice a0 len0 cap0] w fun e w' => e = .returned (.bool true) ∧ Below w.heap.size w w' := by
 obtain ⟨l0, rfl, hr0, hm0, hw0, hc0⟩ := ReadsInt.ofRowC w0
 obtain ⟨k, h⟩ := P l0 hm0 y0 hw0
 refine (laws_FnNumbers.calls k _ _ l0 true w (Kd.C_of_reads (d := (0 : Int)) (h1 := fun _ => rfl) hr0) hc0 ⟨rfl⟩ h HTAB).mono ?_
 rintro e w' ⟨rfl, hd⟩
 exact ⟨rfl, hd⟩
end Go.Proofs.YtmbkcbgbienjoaaDoor.PFnNumbers
