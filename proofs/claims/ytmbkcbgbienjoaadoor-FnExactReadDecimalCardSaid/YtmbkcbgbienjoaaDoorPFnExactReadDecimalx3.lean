/- The machine side of the law FnExactReadDecimal: for each function that it reaches, a Lean function and its contract. Written by a program of this session's over the kit's print. No condition. -/
import Derived.Test.YtmbkcbgbienjoaaDoorCmq
import Derived.Test.YtmbkcbgbienjoaaDoorPFnExactReadDecimalx0
import Derived.Test.YtmbkcbgbienjoaaDoorPFnExactReadDecimalx1
namespace Go.Proofs.YtmbkcbgbienjoaaDoor.PFnExactReadDecimal
open Go.RowKit Go.Proofs.YtmbkcbgbienjoaaDoorW.PrintWords Go.Proofs.YtmbkcbgbienjoaaDoorW.PrintLast Go.Proofs.YtmbkcbgbienjoaaDoorW.PrintMore Go.Proofs.YtmbkcbgbienjoaaDoor.Cmp
attribute [local go_sem] max2_int min2_int max_two min_two max_three min_three max_four min_four   -- for this text's walks alone
set_option linter.unusedVariables false
set_option maxHeartbeats 8000000
set_option maxRecDepth 100000
set_option linter.unusedSimpArgs false

-- NOT PRINTED: function 42 (strconv_ParseUint)

-- NOT PRINTED: function 35 (strconv_ParseInt)

-- NOT PRINTED: function 29 (strconv_Atoi_29)

-- NOT PRINTED: function 43 (stringslite_Clone)

-- NOT PRINTED: function 36 (strconv_syntaxError)

-- NOT PRINTED: function 37 (strconv_rangeError)

-- NOT PRINTED: function 44 (errors_New)

-- NOT PRINTED: function 38 (strconv_baseError)

-- NOT PRINTED: function 39 (strconv_bitSizeError)

-- NOT PRINTED: function 30 (strconv_toError)

-- NOT PRINTED: function 18 (strconv_Atoi_18)

/-! ### impl_within: function 19 -/
def impl_within.f (a0 : Int) (a1 : Int) (a2 : Int) : Option (Bool) := if a0 ≥ a1 then (some (decide (a0 ≤ a2))) else (some false)
theorem impl_within.calls (a0 : Int) (a1 : Int) (a2 : Int) (r : Bool) (w : World) (h : impl_within.f a0 a1 a2 = some r) :
  Calls Tryd.prog 19 #[.int .i64 a0, .int .i64 a1, .int .i64 a2] w fun e w' => e = .returned (.bool r) ∧ Drawn0 w w' := by
 have H : (if a0 ≥ a1 then (some (decide (a0 ≤ a2))) else (some false)) = some r := h
 clear h
 by_cases c4 : a0 ≥ a1
 ·rw [if_pos c4] at H
  have c4b0 : decide (a1 ≤ a0) = true := decide_eq_true c4
  clear c4
  obtain rfl := Option.some.inj H
  go_enter Tryd.func19, Tryd.ntmps19
  go_wp2
  go_ret
  exact ⟨by first | rfl | (simp; done) | (simp [*]; done), by repeat (first | exact Drawn0.refl _ | apply Drawn0.step)⟩
 ·rw [if_neg c4] at H
  have c4b0 : decide (a1 ≤ a0) = false := decide_eq_false c4
  clear c4
  obtain rfl := Option.some.inj H
  go_enter Tryd.func19, Tryd.ntmps19
  go_wp2
  go_ret
  exact ⟨by first | rfl | (simp; done) | (simp [*]; done), by repeat (first | exact Drawn0.refl _ | apply Drawn0.step)⟩

/-! ### impl_ReadDecimal: function 6 -/
def readV (a0 : ByteArray) : Int × Bool :=
  match Lib.atoiAll a0.data.toList with
  | .ok v => if (⟨(Lib.itoa v).toArray⟩ : ByteArray) = a0 ∧ 0 ≤ v ∧ v ≤ 1000000000 then (v, true) else (0, false)
  | _ => (0, false)
theorem atoi_bound {l : List UInt8} {v : Int} (h : Lib.atoiAll l = .ok v) : -9223372036854775808 ≤ v ∧ v ≤ 9223372036854775807 := by
  unfold Lib.atoiAll at h
  split at h
  · cases h
  · dsimp only at h
    split at h
    · cases h
    · cases h
    · split at h
      · cases h
      · split at h
        · cases h
        · injection h with h
          split at h <;> omega
def impl_ReadDecimal.f (_ : Nat) (a0 : ByteArray) : Option (Int × Bool) := if a0.size ≤ 1048576 then some (readV a0) else none
set_option maxRecDepth 100000 in
theorem impl_ReadDecimal.calls (k : Nat) (a0 : ByteArray) (r1 : Int) (r2 : Bool) (w : World) (h : impl_ReadDecimal.f k a0 = some (r1, r2)) (HTAB : Aside0 (VarsOk w) := by first | exact HTAB | exact ⟨VarsOk.below HTAB.out (Hf_ HB)⟩) :
    Calls Tryd.prog 6 #[.string a0] w fun e w' => e = .returned (.tuple #[.int .i64 r1, .bool r2]) ∧ Below w.heap.size w w' := by
  unfold impl_ReadDecimal.f at h
  split at h
  · rename_i hsz
    have h := Option.some.inj h
    unfold readV at h
    have ht := HTAB.out
    obtain ⟨ht1, ⟨ts, ps, hts⟩, tr, pr, htr⟩ := ht
    cases hA : Lib.atoiAll a0.data.toList with
    | «syntax» =>
      rw [hA] at h
      obtain ⟨rfl, rfl⟩ := Prod.mk.inj h
      go_enter Tryd.func6, Tryd.ntmps6
      go_wp2_with (go_at_call 18; refine (Tryd.strconv_Atoi_syntax_var a0 (by omega) hA ts ps _ hts).mono ?_; rintro e w1 ⟨N, rfl, hN, hc, hb⟩)
      go_ret2
      exact ⟨rfl, hb⟩
    | range =>
      rw [hA] at h
      obtain ⟨rfl, rfl⟩ := Prod.mk.inj h
      go_enter Tryd.func6, Tryd.ntmps6
      go_wp2_with (go_at_call 18; refine (Tryd.strconv_Atoi_range_var a0 (by omega) hA tr pr _ htr).mono ?_; rintro e w1 ⟨N, rfl, hN, hc, hb⟩)
      go_ret2
      exact ⟨rfl, hb⟩
    | ok v =>
      rw [hA] at h
      have h : (if (⟨(Lib.itoa v).toArray⟩ : ByteArray) = a0 ∧ 0 ≤ v ∧ v ≤ 1000000000 then (v, true) else (0, false)) = (r1, r2) := h
      have hv := atoi_bound hA
      have hd : impl_Decimal.f k v = some ⟨(Lib.itoa v).toArray⟩ := if_pos hv
      have hok : ∀ w0 : World, Calls Tryd.prog 18 #[.string a0] w0 fun e w' => e = .returned (.tuple #[.int .i64 v, .nilIface]) ∧ Below w0.heap.size w0 w' := fun w0 => (Tryd.strconv_Atoi_ok a0 (by omega) v hA w0).mono (by
        rintro e w1 ⟨rfl, rfl | ⟨t, rfl⟩⟩
        · exact ⟨rfl, Below.refl _ _⟩
        · exact ⟨rfl, Lib.bytesWorld_below _ _ _⟩)
      generalize hT : (⟨(Lib.itoa v).toArray⟩ : ByteArray) = tx at h hd
      have HV := HTAB.out
      by_cases c1 : tx = a0
      · by_cases c2 : 0 ≤ v ∧ v ≤ 1000000000
        · rw [if_pos ⟨c1, c2⟩] at h
          obtain ⟨rfl, rfl⟩ := Prod.mk.inj h
          have hw : impl_within.f v 0 1000000000 = some true := by
            unfold impl_within.f
            rw [if_pos c2.1, decide_eq_true c2.2]
          subst c1
          clear c2 hv
          go_enter Tryd.func6, Tryd.ntmps6
          go_wp2_with (first
            | (go_at_call 18; refine (hok _).mono ?_; rintro e w1 ⟨rfl, hb1⟩)
            | (go_at_call 11; refine (impl_Decimal.calls k v tx _ hd (HV.below hb1)).mono ?_; rintro e w2 ⟨rfl, hb2⟩)
            | (go_at_call 19; refine (impl_within.calls v 0 1000000000 true _ hw).mono ?_; rintro e w3 ⟨rfl, ⟨nd, rfl⟩⟩))
          go_ret2
          exact ⟨rfl, by repeat (first | (with_reducible first | exact hb1.trans (hb2.mono hb1.size) | apply below_alloc | apply pw_below_drewN | apply below_drew1) | exact hb1.trans (hb2.mono hb1.size))⟩
        · rw [if_neg (fun q => c2 q.2)] at h
          obtain ⟨rfl, rfl⟩ := Prod.mk.inj h
          have hw : impl_within.f v 0 1000000000 = some false := by
            unfold impl_within.f
            by_cases g : v ≥ 0
            · rw [if_pos g, decide_eq_false (fun q => c2 ⟨g, q⟩)]
            · rw [if_neg g]
          subst c1
          clear c2 hv
          go_enter Tryd.func6, Tryd.ntmps6
          go_wp2_with (first
            | (go_at_call 18; refine (hok _).mono ?_; rintro e w1 ⟨rfl, hb1⟩)
            | (go_at_call 11; refine (impl_Decimal.calls k v tx _ hd (HV.below hb1)).mono ?_; rintro e w2 ⟨rfl, hb2⟩)
            | (go_at_call 19; refine (impl_within.calls v 0 1000000000 false _ hw).mono ?_; rintro e w3 ⟨rfl, ⟨nd, rfl⟩⟩))
          go_ret2
          exact ⟨rfl, by repeat (first | (with_reducible first | exact hb1.trans (hb2.mono hb1.size) | apply below_alloc | apply pw_below_drewN | apply below_drew1) | exact hb1.trans (hb2.mono hb1.size))⟩
      · rw [if_neg (fun q => c1 q.1)] at h
        obtain ⟨rfl, rfl⟩ := Prod.mk.inj h
        have c9 : ¬ tx.toList = a0.toList := fun q => c1 (by cases tx; cases a0; rw [ByteArray.toList_eq, ByteArray.toList_eq] at q; exact congrArg ByteArray.mk (Array.toList_inj.1 q))
        have c8 := beq_eq_false_iff_ne.mpr c9
        have c7 := bne_iff_ne.mpr c9
        clear hv
        go_enter Tryd.func6, Tryd.ntmps6
        go_wp2_with (first
          | (go_at_call 18; refine (hok _).mono ?_; rintro e w1 ⟨rfl, hb1⟩)
          | (go_at_call 11; refine (impl_Decimal.calls k v tx _ hd (HV.below hb1)).mono ?_; rintro e w2 ⟨rfl, hb2⟩))
        go_ret2
        exact ⟨rfl, by repeat (first | (with_reducible first | exact hb1.trans (hb2.mono hb1.size) | apply below_alloc | apply pw_below_drewN | apply below_drew1) | exact hb1.trans (hb2.mono hb1.size))⟩
  · cases h

/-! ### laws_FnExactReadDecimal: function 3 -/
def laws_FnExactReadDecimal.f (k : Nat) (a0 : ByteArray) : Option (Bool) := if (a0.size : Int) > 1048576 then (some true) else ((spec_ReadDecimal.f k a0).bind fun bt144 => ((impl_ReadDecimal.f k a0).bind fun bt146 => (if bt146.1 = bt144.1 then (if (bt146.2 != bt144.2) = true then (some false) else (some true)) else (some false))))
theorem laws_FnExactReadDecimal.calls (k : Nat) (a0 : ByteArray) (r : Bool) (w : World) (hlaw_ : Aside0 (r = true)) (h : laws_FnExactReadDecimal.f k a0 = some r) (HTAB : Aside0 (VarsOk w)) :
  Calls Tryd.prog 3 #[.string a0] w fun e w' => e = .returned (.bool r) ∧ Below w.heap.size w w' := by
 have HB := Aside0.mk (Below.refl w.heap.size w)
 have H : (if (a0.size : Int) > 1048576 then (some true) else ((spec_ReadDecimal.f k a0).bind fun bt144 => ((impl_ReadDecimal.f k a0).bind fun bt146 => (if bt146.1 = bt144.1 then (if (bt146.2 != bt144.2) = true then (some false) else (some true)) else (some false))))) = some r := h
 clear h
 by_cases c2 : (a0.size : Int) > 1048576
 ·rw [if_pos c2] at H
  have c2b0 : decide (1048576 < (a0.size : Int)) = true := decide_eq_true c2
  have c2b1 : decide (1048576 < a0.size) = true := decide_eq_true (by omega)
  clear c2
  obtain rfl := Option.some.inj H
  go_enter Tryd.func3, Tryd.ntmps3
  go_wp2
  go_ret
  exact ⟨Re_, Hf_ HB⟩
 ·rw [if_neg c2] at H
  have c2b0 : decide (1048576 < (a0.size : Int)) = false := decide_eq_false c2
  have c2b1 : decide (1048576 < a0.size) = false := decide_eq_false (by omega)
  clear c2
  obtain ⟨⟨t144, t145⟩, A3, H⟩ := Bo_ H
  try dsimp only at H
  obtain ⟨⟨t146, t147⟩, A4, H⟩ := Bo_ H
  try dsimp only at H
  by_cases c5 : t146 = t144
  ·rw [if_pos c5] at H
   have c5b0 := beq_iff_eq.mpr c5
   have c5b1 := bne_eq_false_iff_eq.mpr c5
   clear c5
   by_cases c6 : (t147 != t145) = true
   ·rw [if_pos c6] at H
    have c6b0 : (t147 != t145) = true := c6
    (try (have c6b1 : decide (t147 = t145) = false := by simpa using c6))
    (try (have c6b2 : (t147 == t145) = false := by simpa using c6))
    (try (have c6b3 : ¬ (t147 = t145) := by simpa using c6))
    clear c6
    exact absurd (Option.some.inj H) (by rw [hlaw_.out]; decide)
   ·rw [if_neg c6] at H
    have c6b0 : (t147 != t145) = false := by simpa using c6
    (try (have c6b1 : decide (t147 = t145) = true := by simpa using c6))
    (try (have c6b2 : (t147 == t145) = true := by simpa using c6))
    clear c6
    obtain rfl := Option.some.inj H
    go_enter Tryd.func3, Tryd.ntmps3
    go_wp2_with (first | (refine Gl_ (some 12) Tryd.func5 ((spec_ReadDecimal.calls k a0 t144 t145 _ A3.out).mono ?_); rintro e w7 ⟨rfl, hb⟩; refine ⟨_, rfl, ?_⟩; replace HB := Hs_ HB hb; clear hb) | (refine Gl_ (some 17) Tryd.func6 ((impl_ReadDecimal.calls k a0 t146 t147 _ A4.out).mono ?_); rintro e w8 ⟨rfl, hb⟩; refine ⟨_, rfl, ?_⟩; replace HB := Hs_ HB hb; clear hb))
    go_ret
    exact ⟨Re_, Hf_ HB⟩
  ·rw [if_neg c5] at H
   have c5b0 := beq_eq_false_iff_ne.mpr c5
   have c5b1 := bne_iff_ne.mpr c5
   exact absurd (Option.some.inj H) (by rw [hlaw_.out]; decide)

/-- THE ONE PURE STATEMENT of laws_FnExactReadDecimal: yours. -/
def laws_FnExactReadDecimal.Pure : Prop := ∀ (a0 : ByteArray), a0.size ≤ 140737488351232 → ∃ k, laws_FnExactReadDecimal.f k a0 = some true
theorem laws_FnExactReadDecimal.walk (P : laws_FnExactReadDecimal.Pure) (a0 : ByteArray) (w : World) (w0 : a0.size ≤ 140737488351232) (HTAB : Aside0 (VarsOk w)) :
  Calls Tryd.prog 3 #[.string a0] w fun e w' => e = .returned (.bool true) ∧ Below w.heap.size w w' := by
 obtain ⟨k, h⟩ := P a0 w0
 refine (laws_FnExactReadDecimal.calls k a0 true w ⟨rfl⟩ h HTAB).mono ?_
 rintro e w' ⟨rfl, hd⟩
 exact ⟨rfl, hd⟩
end Go.Proofs.YtmbkcbgbienjoaaDoor.PFnExactReadDecimal
