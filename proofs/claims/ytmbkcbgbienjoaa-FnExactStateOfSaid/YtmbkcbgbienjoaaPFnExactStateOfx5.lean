/- The machine side of the law FnExactStateOf: for each function that it reaches, a Lean function and its contract. Written by a program of this session's over the kit's print. No condition. -/
import Derived.Test.YtmbkcbgbienjoaaCmp
import Derived.Test.YtmbkcbgbienjoaaPFnExactStateOfx0
import Derived.Test.YtmbkcbgbienjoaaPFnExactStateOfx4
namespace Go.Proofs.Ytmbkcbgbienjoaa.PFnExactStateOf
open Go.RowKit Go.Proofs.YtmbkcbgbienjoaaW.PrintWords Go.Proofs.YtmbkcbgbienjoaaW.PrintLast Go.Proofs.YtmbkcbgbienjoaaW.PrintMore Go.Proofs.Ytmbkcbgbienjoaa.Cmp
attribute [local go_sem] max2_int min2_int max_two min_two max_three min_three max_four min_four   -- for this text's walks alone
set_option linter.unusedVariables false
set_option linter.unusedSimpArgs false

/-! ### impl_comesNext: function 61 -/
def impl_comesNext.f (l0_0 : List (S77)) (l0_1 : List (S106)) (l0_2 : List (S103)) (l1_0 : List Int) (l1_1 : List ByteArray) (l1_2 : List Int) (a1_3 : Int) : Option (Int × Int × ByteArray × ByteArray × ByteArray × List Int × Bool) := if (l1_0.length : Int) = 0 then (some (0, 0, (⟨#[]⟩ : ByteArray), (⟨#[]⟩ : ByteArray), (⟨#[]⟩ : ByteArray), ([] : List Int), false)) else (if 0 ≤ (wrap64 ((l1_0.length : Int) - 1)) then (if (wrap64 ((l1_0.length : Int) - 1)) < (l1_0.length : Int) then ((impl_isNode.f l0_0 l0_1 l0_2 (rd l1_0 (wrap64 ((l1_0.length : Int) - 1)))).bind fun t266 => (if t266 = true then (if 0 ≤ (rd l1_0 (wrap64 ((l1_0.length : Int) - 1))) then (if (rd l1_0 (wrap64 ((l1_0.length : Int) - 1))) < (l0_0.length : Int) then (some ((rd_T77 l0_0 (rd l1_0 (wrap64 ((l1_0.length : Int) - 1)))).f0, (rd_T77 l0_0 (rd l1_0 (wrap64 ((l1_0.length : Int) - 1)))).f1, (rd_T77 l0_0 (rd l1_0 (wrap64 ((l1_0.length : Int) - 1)))).f2, (rd_T77 l0_0 (rd l1_0 (wrap64 ((l1_0.length : Int) - 1)))).f3, (rd_T77 l0_0 (rd l1_0 (wrap64 ((l1_0.length : Int) - 1)))).f4, (rd_T77 l0_0 (rd l1_0 (wrap64 ((l1_0.length : Int) - 1)))).f5, true)) else (none)) else (none)) else (some (0, 0, (⟨#[]⟩ : ByteArray), (⟨#[]⟩ : ByteArray), (⟨#[]⟩ : ByteArray), ([] : List Int), false)))) else (none)) else (none))
def impl_comesNext.T1 : Bool × List (List Nat × List Nat) := (true, [([], []), ([0], [0]), ([1], [1]), ([2], [2]), ([3], [3]), ([4], [4]), ([4], [4]), ([6, 4], [4, 6]), ([4], [4]), ([8, 4], [4, 8]), ([9, 4], [4, 9]), ([10, 4], [4, 10]), ([7, 11, 4], [4, 7, 11]), ([12, 4], [4, 12]), ([5, 13, 4, 4], [4, 5, 13]), ([14, 4], [4, 14]), ([4, 15], [4, 15])])
def impl_comesNext.B1 : List Nat := [0, 1, 3, 7, 15, 31, 31, 95, 31, 287, 799, 1823, 4063, 8159, 16383, 32767, 65535]
theorem impl_comesNext.tab1 : rtab .any (opsOf Try.f61 1) = impl_comesNext.T1 := by kernel_rfl
theorem impl_comesNext.bits1 : waitsOk impl_comesNext.T1.2 impl_comesNext.B1 = true := by kernel_rfl
def impl_comesNext.T3 : Bool × List (List Nat × List Nat) := (true, [([], []), ([0], [0]), ([], []), ([2], [2]), ([], []), ([4], [4]), ([5], [5]), ([6], [6]), ([3, 7], [3, 7]), ([8], [8]), ([1, 9], [1, 9]), ([10], [10]), ([11, 0, 1, 2, 3, 4, 5, 6, 7, 8, 9, 10, 11], [11]), ([12, 0, 1, 2, 3, 4, 5, 6, 7, 8, 9, 10, 11, 12], [])])
def impl_comesNext.B3 : List Nat := [0, 1, 0, 4, 0, 16, 48, 112, 252, 508, 1023, 2047, 4095, 8191]
theorem impl_comesNext.tab3 : rtab .any (opsOf Try.f61 3) = impl_comesNext.T3 := by kernel_rfl
theorem impl_comesNext.bits3 : waitsOk impl_comesNext.T3.2 impl_comesNext.B3 = true := by kernel_rfl
set_option maxHeartbeats 8000000 in
set_option maxRecDepth 100000 in
theorem impl_comesNext.calls (P0_0_ : Nat → Prop) (A0_0 : Option Addr) (c0_0 : Nat) (l0_0 : List (S77)) (A0_1 : Option Addr) (c0_1 : Nat) (l0_1 : List (S106)) (A0_2 : Option Addr) (c0_2 : Nat) (l0_2 : List (S103)) (A1_0 : Option Addr) (c1_0 : Nat) (l1_0 : List Int) (A1_1 : Option Addr) (c1_1 : Nat) (l1_1 : List ByteArray) (A1_2 : Option Addr) (c1_2 : Nat) (l1_2 : List Int) (a1_3 : Int) (r1 : Int) (r2 : Int) (r3 : ByteArray) (r4 : ByteArray) (r5 : ByteArray) (r6 : List Int) (r7 : Bool) (w : World) (hs0_0 : Kd.V k77 77 w w.heap.size (fun k_ => P0_0_ k_) (.slice A0_0 l0_0.length c0_0) l0_0) (hr0_1 : Kd.C k106 w A0_1 l0_1.length l0_1) (hc0_1 : l0_1.length ≤ c0_1) (hr0_2 : Kd.C k103 w A0_2 l0_2.length l0_2) (hc0_2 : l0_2.length ≤ c0_2) (hr1_0 : Kd.C (Kd.int .i64) w A1_0 l1_0.length l1_0) (hc1_0 : l1_0.length ≤ c1_0) (hr1_1 : Kd.C Kd.string w A1_1 l1_1.length l1_1) (hc1_1 : l1_1.length ≤ c1_1) (hr1_2 : Kd.C (Kd.int .i64) w A1_2 l1_2.length l1_2) (hc1_2 : l1_2.length ≤ c1_2) (h : impl_comesNext.f l0_0 l0_1 l0_2 l1_0 l1_1 l1_2 a1_3 = some (r1, r2, r3, r4, r5, r6, r7)) :
    Calls Try.prog 61 #[.agg #[.slice A0_0 l0_0.length c0_0, .slice A0_1 l0_1.length c0_1, .slice A0_2 l0_2.length c0_2], .agg #[.slice A1_0 l1_0.length c1_0, .slice A1_1 l1_1.length c1_1, .slice A1_2 l1_2.length c1_2, .int .i64 a1_3]] w fun e w' => ∃ v5_ : Value, e = .returned (.tuple #[.agg #[.int .i64 r1, .int .i64 r2, .string r3, .string r4, .string r5, v5_], .bool r7]) ∧ Kd.V (Kd.int .i64) 3 w' w.heap.size (fun k_ => (P0_0_ k_ ∨ w.heap.size ≤ k_)) v5_ r6 ∧ Below w.heap.size w w' := by
  have hu40 := Try.underlying40
  have hu44 := Try.underlying44
  have hu77 := Try.underlying77
  have HO0_0 := Aside0.mk (show Kd.V k77 77 w w.heap.size (fun k_ => (P0_0_ k_ ∨ w.heap.size ≤ k_)) (.slice A0_0 l0_0.length c0_0) l0_0 from Kd.V_mono hs0_0 (fun k_ hk => .inl hk))
  have HR0_1 := Aside0.mk hr0_1
  have HC0_1 := Aside0.mk hc0_1
  clear hr0_1 hc0_1
  have HR0_2 := Aside0.mk hr0_2
  have HC0_2 := Aside0.mk hc0_2
  clear hr0_2 hc0_2
  have HR1_0 := Aside0.mk hr1_0
  have HC1_0 := Aside0.mk hc1_0
  clear hr1_0 hc1_0
  have HR1_1 := Aside0.mk hr1_1
  have HC1_1 := Aside0.mk hc1_1
  clear hr1_1 hc1_1
  have HR1_2 := Aside0.mk hr1_2
  have HC1_2 := Aside0.mk hc1_2
  clear hr1_2 hc1_2
  have HB := Aside0.mk (Below.refl w.heap.size w)
  have H : (if (l1_0.length : Int) = 0 then (some (0, 0, (⟨#[]⟩ : ByteArray), (⟨#[]⟩ : ByteArray), (⟨#[]⟩ : ByteArray), ([] : List Int), false)) else (if 0 ≤ (wrap64 ((l1_0.length : Int) - 1)) then (if (wrap64 ((l1_0.length : Int) - 1)) < (l1_0.length : Int) then ((impl_isNode.f l0_0 l0_1 l0_2 (rd l1_0 (wrap64 ((l1_0.length : Int) - 1)))).bind fun t266 => (if t266 = true then (if 0 ≤ (rd l1_0 (wrap64 ((l1_0.length : Int) - 1))) then (if (rd l1_0 (wrap64 ((l1_0.length : Int) - 1))) < (l0_0.length : Int) then (some ((rd_T77 l0_0 (rd l1_0 (wrap64 ((l1_0.length : Int) - 1)))).f0, (rd_T77 l0_0 (rd l1_0 (wrap64 ((l1_0.length : Int) - 1)))).f1, (rd_T77 l0_0 (rd l1_0 (wrap64 ((l1_0.length : Int) - 1)))).f2, (rd_T77 l0_0 (rd l1_0 (wrap64 ((l1_0.length : Int) - 1)))).f3, (rd_T77 l0_0 (rd l1_0 (wrap64 ((l1_0.length : Int) - 1)))).f4, (rd_T77 l0_0 (rd l1_0 (wrap64 ((l1_0.length : Int) - 1)))).f5, true)) else (none)) else (none)) else (some (0, 0, (⟨#[]⟩ : ByteArray), (⟨#[]⟩ : ByteArray), (⟨#[]⟩ : ByteArray), ([] : List Int), false)))) else (none)) else (none))) = some (r1, r2, r3, r4, r5, r6, r7) := h
  clear h
  by_cases c3 : (l1_0.length : Int) = 0
  · rw [if_pos c3] at H
    have c3b0 : ((l1_0.length : Int) == 0) = true := beq_iff_eq.mpr c3
    have c3b1 : ((l1_0.length : Int) != 0) = false := bne_eq_false_iff_eq.mpr c3
    clear c3
    simp only [Option.some.injEq, Prod.mk.injEq] at H
    obtain ⟨rfl, rfl, rfl, rfl, rfl, rfl, rfl⟩ := H
    go_enter Try.func61, Try.ntmps61
    try go_wp2_with (first | ((with_reducible refine gate_dst (N := 2) rfl ?_); (try (refine gate_guard (by rfl) ?_; dsimp only)); refine box_event ?hg (N := 2) ?hd (cs := #[.slice A0_0 l0_0.length c0_0, .slice A0_1 l0_1.length c0_1, .slice A0_2 l0_2.length c0_2]) (t := 40) ?hr ?_; (case hd => rfl); (case hg => rfl); (case hr => first | (go_simp; done) | (go_simp; rfl)); intro gb262 hg w4 hbox hb; have BK262 := Aside0.mk (hbox); have GW262 := Hg_ HB hg; have GE262 := GW262; replace HO0_0 := Aside0.mk (Kd.V_below (Kd.V_elderB (by (with_reducible repeat (first | apply Kd.V_alloc | apply Kd.V_drewN | apply Kd.V_drew)); exact HO0_0.out) gb262 (Nat.le_of_eq hg.symm)) hb); replace HB := Hs_ HB hb; clear hb hbox hg) | ((with_reducible refine gate_dst (N := 3) rfl ?_); (try (refine gate_guard (by rfl) ?_; dsimp only)); refine box_event ?hg (N := 3) ?hd (cs := #[.slice A1_0 l1_0.length c1_0, .slice A1_1 l1_1.length c1_1, .slice A1_2 l1_2.length c1_2, .int .i64 a1_3]) (t := 44) ?hr ?_; (case hd => rfl); (case hg => rfl); (case hr => first | (go_simp; done) | (go_simp; rfl)); intro gb263 hg w5 hbox hb; have BK263 := Aside0.mk (hbox); have GW263 := Hg_ HB hg; have GE263 := GW263; have NB262_263 := Bl_ BK262 hg; have NB263_262 := Bm_ NB262_263; replace HO0_0 := Aside0.mk (Kd.V_below (Kd.V_elderB (by (with_reducible repeat (first | apply Kd.V_alloc | apply Kd.V_drewN | apply Kd.V_drew)); exact HO0_0.out) gb263 (Nat.le_of_eq hg.symm)) hb); replace BK262 := Bb_ BK262 hb; replace HB := Hs_ HB hb; clear hb hbox hg) | ((with_reducible refine gate_dst (N := 4) rfl ?_); (try (refine gate_guard (by rfl) ?_; dsimp only)); refine box_event ?hg (N := 4) ?hd (cs := #[.int .i64 0, .int .i64 0, .string (⟨#[]⟩ : ByteArray), .string (⟨#[]⟩ : ByteArray), .string (⟨#[]⟩ : ByteArray), .slice none 0 0]) (t := 77) ?hr ?_; (case hd => rfl); (case hg => rfl); (case hr => first | (go_simp; done) | (go_simp; rfl)); intro gb264 hg w6 hbox hb; have BK264 := Aside0.mk (hbox); have GW264 := Hg_ HB hg; have GE264 := GW264; have NB262_264 := Bl_ BK262 hg; have NB264_262 := Bm_ NB262_264; have NB263_264 := Bl_ BK263 hg; have NB264_263 := Bm_ NB263_264; replace HO0_0 := Aside0.mk (Kd.V_below (Kd.V_elderB (by (with_reducible repeat (first | apply Kd.V_alloc | apply Kd.V_drewN | apply Kd.V_drew)); exact HO0_0.out) gb264 (Nat.le_of_eq hg.symm)) hb); replace BK262 := Bb_ BK262 hb; replace BK263 := Bb_ BK263 hb; replace HB := Hs_ HB hb; clear hb hbox hg))
    have n0_ := Aside0.mk (Kd.V_drew HO0_0.out)
    have n1_ := Aside0.mk (blk_drew BK262.out)
    have n2_ := Aside0.mk (blk_drew BK263.out)
    have n3_ := Aside0.mk (blk_drew BK264.out)
    have n4_ := Aside0.mk (below_drew1 HB.out)
    clear HO0_0
    clear BK262
    clear BK263
    clear BK264
    clear HB
    have HO0_0 := n0_
    have BK262 := n1_
    have BK263 := n2_
    have BK264 := n3_
    have HB := n4_
    clear n0_ n1_ n2_ n3_ n4_
    refine start_ (n := 17) (S := fun w' => w'.cell? ⟨gb263, 0, none⟩ = some (.slice A1_0 l1_0.length c1_0) ∧ w'.cell? ⟨gb263, 1, none⟩ = some (.slice A1_1 l1_1.length c1_1) ∧ w'.cell? ⟨gb263, 2, none⟩ = some (.slice A1_2 l1_2.length c1_2) ∧ w'.cell? ⟨gb263, 3, none⟩ = some (.int .i64 a1_3)) (ds := []) #[false, false, false, false, false, false, false, false, false, false, false, false, false, false, false, false, false] (by kernel_rfl) rfl rfl ⟨(blk_cell BK263.out 0).trans rfl, (blk_cell BK263.out 1).trans rfl, (blk_cell BK263.out 2).trans rfl, (blk_cell BK263.out 3).trans rfl⟩ (fun hHeld => ?_); refine with_tabW impl_comesNext.tab1 impl_comesNext.bits1 (fun HT_ HW_ => ?_)
    generalize w6.drew = w7 at HO0_0 BK262 BK263 BK264 HB hHeld ⊢
    refine pure_ (i := 0) (N := some 6) (v := ?_) (a' := ?_) #[true, false, false, false, false, false, false, false, false, false, false, false, false, false, false, false, false] rfl rfl (any_of HT_.out (by kernel_rfl)) (fun _ _ _ h => h) (Or.inl ⟨by rfl, ?_⟩) ?_ ?_
    rotate_left
    · intro w'
      go_simp
      with_reducible rfl
    rotate_left
    · simp only [Act.put, List.setIfInBounds_toArray, List.set_cons_zero, List.set_cons_succ, i64_w, i32_w]
      rfl
    refine take_ (i := 1) (N := some 7) (v := ?_) (a' := ?_) #[true, true, false, false, false, false, false, false, false, false, false, false, false, false, false, false, false] rfl rfl (take_ofW HT_.out HW_.out (by kernel_rfl)) (fun _ _ _ h => h) (Or.inl ⟨by rfl, ?_⟩) hHeld ?_ ?_
    rotate_left
    · rintro w' ⟨s0, s1, s2, s3⟩
      go_simp
      with_reducible rfl
    rotate_left
    · simp only [Act.put, List.setIfInBounds_toArray, List.set_cons_zero, List.set_cons_succ, i64_w, i32_w]
      rfl
    refine pure_ (i := 2) (N := some 8) (v := ?_) (a' := ?_) #[true, true, true, false, false, false, false, false, false, false, false, false, false, false, false, false, false] rfl rfl (any_of HT_.out (by kernel_rfl)) (fun _ _ _ h => h) (Or.inl ⟨by rfl, ?_⟩) ?_ ?_
    rotate_left
    · intro w'
      go_simp
      with_reducible rfl
    rotate_left
    · simp only [Act.put, List.setIfInBounds_toArray, List.set_cons_zero, List.set_cons_succ, i64_w, i32_w]
      rfl
    refine pure_ (i := 3) (N := some 9) (v := ?_) (a' := ?_) #[true, true, true, true, false, false, false, false, false, false, false, false, false, false, false, false, false] rfl rfl (any_of HT_.out (by kernel_rfl)) (fun _ _ _ h => h) (Or.inl ⟨by rfl, ?_⟩) ?_ ?_
    rotate_left
    · intro w'
      go_simp
      with_reducible rfl
    rotate_left
    · simp only [Act.put, List.setIfInBounds_toArray, List.set_cons_zero, List.set_cons_succ, i64_w, i32_w]
      rfl
    refine pure_ (i := 4) (N := some 10) (v := ?_) (a' := ?_) #[true, true, true, true, true, false, false, false, false, false, false, false, false, false, false, false, false] rfl rfl (any_of HT_.out (by kernel_rfl)) (fun _ _ _ h => h) (Or.inl ⟨by rfl, ?_⟩) ?_ ?_
    rotate_left
    · intro w'
      go_simp
      with_reducible rfl
    rotate_left
    · simp only [Act.put, List.setIfInBounds_toArray, List.set_cons_zero, List.set_cons_succ, i64_w, i32_w]
      rfl
    refine pure_ (i := 5) (N := some 11) (v := undef) (a' := ?_) #[true, true, true, true, true, true, false, false, false, false, false, false, false, false, false, false, false] rfl rfl (any_of HT_.out (by kernel_rfl)) (fun _ _ _ h => h) (Or.inr ⟨by rfl, rfl⟩) ?_ ?_
    rotate_left
    · simp only [Act.put, List.setIfInBounds_toArray, List.set_cons_zero, List.set_cons_succ, i64_w, i32_w]
      rfl
    refine pure_ (i := 6) (N := some 12) (v := undef) (a' := ?_) #[true, true, true, true, true, true, true, false, false, false, false, false, false, false, false, false, false] rfl rfl (any_of HT_.out (by kernel_rfl)) (fun _ _ _ h => h) (Or.inr ⟨by rfl, rfl⟩) ?_ ?_
    rotate_left
    · simp only [Act.put, List.setIfInBounds_toArray, List.set_cons_zero, List.set_cons_succ, i64_w, i32_w]
      rfl
    refine pure_ (i := 7) (N := some 13) (v := undef) (a' := ?_) #[true, true, true, true, true, true, true, true, false, false, false, false, false, false, false, false, false] rfl rfl (any_of HT_.out (by kernel_rfl)) (fun _ _ _ h => h) (Or.inr ⟨by rfl, rfl⟩) ?_ ?_
    rotate_left
    · simp only [Act.put, List.setIfInBounds_toArray, List.set_cons_zero, List.set_cons_succ, i64_w, i32_w]
      rfl
    refine pure_ (i := 8) (N := some 14) (v := undef) (a' := ?_) #[true, true, true, true, true, true, true, true, true, false, false, false, false, false, false, false, false] rfl rfl (any_of HT_.out (by kernel_rfl)) (fun _ _ _ h => h) (Or.inr ⟨by rfl, rfl⟩) ?_ ?_
    rotate_left
    · simp only [Act.put, List.setIfInBounds_toArray, List.set_cons_zero, List.set_cons_succ, i64_w, i32_w]
      rfl
    refine pure_ (i := 9) (N := some 15) (v := undef) (a' := ?_) #[true, true, true, true, true, true, true, true, true, true, false, false, false, false, false, false, false] rfl rfl (any_of HT_.out (by kernel_rfl)) (fun _ _ _ h => h) (Or.inr ⟨by rfl, rfl⟩) ?_ ?_
    rotate_left
    · simp only [Act.put, List.setIfInBounds_toArray, List.set_cons_zero, List.set_cons_succ, i64_w, i32_w]
      rfl
    refine pure_ (i := 10) (N := some 16) (v := undef) (a' := ?_) #[true, true, true, true, true, true, true, true, true, true, true, false, false, false, false, false, false] rfl rfl (any_of HT_.out (by kernel_rfl)) (fun _ _ _ h => h) (Or.inr ⟨by rfl, rfl⟩) ?_ ?_
    rotate_left
    · simp only [Act.put, List.setIfInBounds_toArray, List.set_cons_zero, List.set_cons_succ, i64_w, i32_w]
      rfl
    refine pure_ (i := 11) (N := some 17) (v := undef) (a' := ?_) #[true, true, true, true, true, true, true, true, true, true, true, true, false, false, false, false, false] rfl rfl (any_of HT_.out (by kernel_rfl)) (fun _ _ _ h => h) (Or.inr ⟨by rfl, rfl⟩) ?_ ?_
    rotate_left
    · simp only [Act.put, List.setIfInBounds_toArray, List.set_cons_zero, List.set_cons_succ, i64_w, i32_w]
      rfl
    refine pure_ (i := 12) (N := some 18) (v := undef) (a' := ?_) #[true, true, true, true, true, true, true, true, true, true, true, true, true, false, false, false, false] rfl rfl (any_of HT_.out (by kernel_rfl)) (fun _ _ _ h => h) (Or.inr ⟨by rfl, rfl⟩) ?_ ?_
    rotate_left
    · simp only [Act.put, List.setIfInBounds_toArray, List.set_cons_zero, List.set_cons_succ, i64_w, i32_w]
      rfl
    refine pure_ (i := 13) (N := some 19) (v := undef) (a' := ?_) #[true, true, true, true, true, true, true, true, true, true, true, true, true, true, false, false, false] rfl rfl (any_of HT_.out (by kernel_rfl)) (fun _ _ _ h => h) (Or.inr ⟨by rfl, rfl⟩) ?_ ?_
    rotate_left
    · simp only [Act.put, List.setIfInBounds_toArray, List.set_cons_zero, List.set_cons_succ, i64_w, i32_w]
      rfl
    refine pure_ (i := 14) (N := some 20) (v := undef) (a' := ?_) #[true, true, true, true, true, true, true, true, true, true, true, true, true, true, true, false, false] rfl rfl (any_of HT_.out (by kernel_rfl)) (fun _ _ _ h => h) (Or.inr ⟨by rfl, rfl⟩) ?_ ?_
    rotate_left
    · simp only [Act.put, List.setIfInBounds_toArray, List.set_cons_zero, List.set_cons_succ, i64_w, i32_w]
      rfl
    refine pure_ (i := 15) (N := some 21) (v := undef) (a' := ?_) #[true, true, true, true, true, true, true, true, true, true, true, true, true, true, true, true, false] rfl rfl (any_of HT_.out (by kernel_rfl)) (fun _ _ _ h => h) (Or.inr ⟨by rfl, rfl⟩) ?_ ?_
    rotate_left
    · simp only [Act.put, List.setIfInBounds_toArray, List.set_cons_zero, List.set_cons_succ, i64_w, i32_w]
      rfl
    refine pure_ (i := 16) (N := some 22) (v := ?_) (a' := ?_) #[true, true, true, true, true, true, true, true, true, true, true, true, true, true, true, true, true] rfl rfl (any_of HT_.out (by kernel_rfl)) (fun _ _ _ h => h) (Or.inl ⟨by rfl, ?_⟩) ?_ ?_
    rotate_left
    · intro w'
      go_simp
      with_reducible rfl
    rotate_left
    · simp only [Act.put, List.setIfInBounds_toArray, List.set_cons_zero, List.set_cons_succ, i64_w, i32_w]
      rfl
    refine done_ (done_of HT_.out (by kernel_rfl)) ?_
    have hnb8 := NB264_262.out
    have hnc8 := NB262_264.out
    have hnb9 := NB264_263.out
    have hnc9 := NB263_264.out
    obtain ⟨hcz10_0, hcz10_1, hcz10_2, hcz10_3, hcz10_4, hcz10_5, hfz10_0, hfz10_1, hfz10_2, hfz10_3, hfz10_4, hfz10_5⟩ := Bc6_ BK264
    try go_wp2
    refine bodyPost_ret (results_ct rfl _ _ gb264 77 #[.int .i64 0, .int .i64 0, .string (⟨#[]⟩ : ByteArray), .string (⟨#[]⟩ : ByteArray), .string (⟨#[]⟩ : ByteArray), .slice none 0 0] (0, 0) _ rfl (by (with_reducible repeat (first | refine blk_drewN ?_ _ | refine blk_drew ?_ | refine blk_alloc ?_ _)); refine blk_put (cs := #[.int .i64 0, .int .i64 0, .string (⟨#[]⟩ : ByteArray), .string (⟨#[]⟩ : ByteArray), .string (⟨#[]⟩ : ByteArray), .slice none 0 0]) ?_ 5 _ rfl; (with_reducible repeat (first | refine blk_drewN ?_ _ | refine blk_drew ?_ | refine blk_alloc ?_ _)); refine blk_put (cs := #[.int .i64 0, .int .i64 0, .string (⟨#[]⟩ : ByteArray), .string (⟨#[]⟩ : ByteArray), .string (⟨#[]⟩ : ByteArray), .slice none 0 0]) ?_ 4 _ rfl; (with_reducible repeat (first | refine blk_drewN ?_ _ | refine blk_drew ?_ | refine blk_alloc ?_ _)); refine blk_put (cs := #[.int .i64 0, .int .i64 0, .string (⟨#[]⟩ : ByteArray), .string (⟨#[]⟩ : ByteArray), .string (⟨#[]⟩ : ByteArray), .slice none 0 0]) ?_ 3 _ rfl; (with_reducible repeat (first | refine blk_drewN ?_ _ | refine blk_drew ?_ | refine blk_alloc ?_ _)); refine blk_put (cs := #[.int .i64 0, .int .i64 0, .string (⟨#[]⟩ : ByteArray), .string (⟨#[]⟩ : ByteArray), .string (⟨#[]⟩ : ByteArray), .slice none 0 0]) ?_ 2 _ rfl; (with_reducible repeat (first | refine blk_drewN ?_ _ | refine blk_drew ?_ | refine blk_alloc ?_ _)); refine blk_put (cs := #[.int .i64 0, .int .i64 0, .string (⟨#[]⟩ : ByteArray), .string (⟨#[]⟩ : ByteArray), .string (⟨#[]⟩ : ByteArray), .slice none 0 0]) ?_ 1 _ rfl; (with_reducible repeat (first | refine blk_drewN ?_ _ | refine blk_drew ?_ | refine blk_alloc ?_ _)); refine blk_put (cs := #[.int .i64 0, .int .i64 0, .string (⟨#[]⟩ : ByteArray), .string (⟨#[]⟩ : ByteArray), .string (⟨#[]⟩ : ByteArray), .slice none 0 0]) ?_ 0 _ rfl; (with_reducible repeat (first | refine blk_drewN ?_ _ | refine blk_drew ?_ | refine blk_alloc ?_ _)); exact BK264.out) Try.underlying77 rfl (by kernel_rfl)) rfl ?_
    exact ⟨_, Re_, Kd.V_nil _ _ _ _ _, Hf_ HB⟩
  · rw [if_neg c3] at H
    have c3b0 : ((l1_0.length : Int) == 0) = false := beq_eq_false_iff_ne.mpr c3
    have c3b1 : ((l1_0.length : Int) != 0) = true := bne_iff_ne.mpr c3
    have c3b2 : ¬ (l1_0 = []) := fun h_ => c3 (by rw [h_]; rfl)
    obtain ⟨ji11, hji11⟩ : ∃ j_ : Int, (wrap64 ((l1_0.length : Int) - 1)) = j_ := ⟨_, rfl⟩
    replace H : (if 0 ≤ (ji11) then (if (ji11) < (l1_0.length : Int) then ((impl_isNode.f l0_0 l0_1 l0_2 (rd l1_0 (ji11))).bind fun t266 => (if t266 = true then (if 0 ≤ (rd l1_0 (ji11)) then (if (rd l1_0 (ji11)) < (l0_0.length : Int) then (some ((rd_T77 l0_0 (rd l1_0 (ji11))).f0, (rd_T77 l0_0 (rd l1_0 (ji11))).f1, (rd_T77 l0_0 (rd l1_0 (ji11))).f2, (rd_T77 l0_0 (rd l1_0 (ji11))).f3, (rd_T77 l0_0 (rd l1_0 (ji11))).f4, (rd_T77 l0_0 (rd l1_0 (ji11))).f5, true)) else (none)) else (none)) else (some (0, 0, (⟨#[]⟩ : ByteArray), (⟨#[]⟩ : ByteArray), (⟨#[]⟩ : ByteArray), ([] : List Int), false)))) else (none)) else (none)) = some (r1, r2, r3, r4, r5, r6, r7) := by first | (rw [hji11] at H; exact H) | (simp only [hji11] at H ⊢; exact H)
    have hji11w : (IntKind.i64.wrap ((l1_0.length : Int) - 1)) = ji11 := (i64_w _).trans hji11
    by_cases c12 : 0 ≤ (ji11)
    · rw [if_pos c12] at H
      have c12b0 : decide (0 ≤ (ji11)) = true := decide_eq_true c12
      clear c12
      by_cases c13 : (ji11) < (l1_0.length : Int)
      · rw [if_pos c13] at H
        have c13b0 : decide ((ji11) < (l1_0.length : Int)) = true := decide_eq_true c13
        clear c13
        replace H := Option.bind_eq_some_iff.mp H
        obtain ⟨t266, A140, H⟩ := H
        replace H : (if t266 = true then (if 0 ≤ (rd l1_0 (ji11)) then (if (rd l1_0 (ji11)) < (l0_0.length : Int) then (some ((rd_T77 l0_0 (rd l1_0 (ji11))).f0, (rd_T77 l0_0 (rd l1_0 (ji11))).f1, (rd_T77 l0_0 (rd l1_0 (ji11))).f2, (rd_T77 l0_0 (rd l1_0 (ji11))).f3, (rd_T77 l0_0 (rd l1_0 (ji11))).f4, (rd_T77 l0_0 (rd l1_0 (ji11))).f5, true)) else (none)) else (none)) else (some (0, 0, (⟨#[]⟩ : ByteArray), (⟨#[]⟩ : ByteArray), (⟨#[]⟩ : ByteArray), ([] : List Int), false))) = some (r1, r2, r3, r4, r5, r6, r7) := H
        have A14 := Aside0.mk A140
        clear A140
        by_cases c15 : t266 = true
        · subst c15
          have H1 : (if 0 ≤ (rd l1_0 (ji11)) then (if (rd l1_0 (ji11)) < (l0_0.length : Int) then (some ((rd_T77 l0_0 (rd l1_0 (ji11))).f0, (rd_T77 l0_0 (rd l1_0 (ji11))).f1, (rd_T77 l0_0 (rd l1_0 (ji11))).f2, (rd_T77 l0_0 (rd l1_0 (ji11))).f3, (rd_T77 l0_0 (rd l1_0 (ji11))).f4, (rd_T77 l0_0 (rd l1_0 (ji11))).f5, true)) else (none)) else (none)) = some (r1, r2, r3, r4, r5, r6, r7) := by rw [if_pos rfl] at H; exact H
          clear H
          have H := H1
          clear H1
          by_cases c16 : 0 ≤ (rd l1_0 (ji11))
          · rw [if_pos c16] at H
            have c16b0 : decide (0 ≤ (rd l1_0 (ji11))) = true := decide_eq_true c16
            clear c16
            by_cases c17 : (rd l1_0 (ji11)) < (l0_0.length : Int)
            · rw [if_pos c17] at H
              have c17b0 : decide ((rd l1_0 (ji11)) < (l0_0.length : Int)) = true := decide_eq_true c17
              clear c17
              simp only [Option.some.injEq, Prod.mk.injEq] at H
              obtain ⟨rfl, rfl, rfl, rfl, rfl, rfl, rfl⟩ := H
              go_enter Try.func61, Try.ntmps61
              try go_wp2_with (first | ((with_reducible refine gate_dst (N := 2) rfl ?_); (try (refine gate_guard (by rfl) ?_; dsimp only)); refine box_event ?hg (N := 2) ?hd (cs := #[.slice A0_0 l0_0.length c0_0, .slice A0_1 l0_1.length c0_1, .slice A0_2 l0_2.length c0_2]) (t := 40) ?hr ?_; (case hd => rfl); (case hg => rfl); (case hr => first | (go_simp; done) | (go_simp; rfl)); intro gb262 hg w18 hbox hb; have BK262 := Aside0.mk (hbox); have GW262 := Hg_ HB hg; have GE262 := GW262; replace HO0_0 := Aside0.mk (Kd.V_below (Kd.V_elderB (by (with_reducible repeat (first | apply Kd.V_alloc | apply Kd.V_drewN | apply Kd.V_drew)); exact HO0_0.out) gb262 (Nat.le_of_eq hg.symm)) hb); replace HB := Hs_ HB hb; clear hb hbox hg) | ((with_reducible refine gate_dst (N := 3) rfl ?_); (try (refine gate_guard (by rfl) ?_; dsimp only)); refine box_event ?hg (N := 3) ?hd (cs := #[.slice A1_0 l1_0.length c1_0, .slice A1_1 l1_1.length c1_1, .slice A1_2 l1_2.length c1_2, .int .i64 a1_3]) (t := 44) ?hr ?_; (case hd => rfl); (case hg => rfl); (case hr => first | (go_simp; done) | (go_simp; rfl)); intro gb263 hg w19 hbox hb; have BK263 := Aside0.mk (hbox); have GW263 := Hg_ HB hg; have GE263 := GW263; have NB262_263 := Bl_ BK262 hg; have NB263_262 := Bm_ NB262_263; replace HO0_0 := Aside0.mk (Kd.V_below (Kd.V_elderB (by (with_reducible repeat (first | apply Kd.V_alloc | apply Kd.V_drewN | apply Kd.V_drew)); exact HO0_0.out) gb263 (Nat.le_of_eq hg.symm)) hb); replace BK262 := Bb_ BK262 hb; replace HB := Hs_ HB hb; clear hb hbox hg) | ((with_reducible refine gate_dst (N := 4) rfl ?_); (try (refine gate_guard (by rfl) ?_; dsimp only)); refine box_event ?hg (N := 4) ?hd (cs := #[.int .i64 0, .int .i64 0, .string (⟨#[]⟩ : ByteArray), .string (⟨#[]⟩ : ByteArray), .string (⟨#[]⟩ : ByteArray), .slice none 0 0]) (t := 77) ?hr ?_; (case hd => rfl); (case hg => rfl); (case hr => first | (go_simp; done) | (go_simp; rfl)); intro gb264 hg w20 hbox hb; have BK264 := Aside0.mk (hbox); have GW264 := Hg_ HB hg; have GE264 := GW264; have NB262_264 := Bl_ BK262 hg; have NB264_262 := Bm_ NB262_264; have NB263_264 := Bl_ BK263 hg; have NB264_263 := Bm_ NB263_264; replace HO0_0 := Aside0.mk (Kd.V_below (Kd.V_elderB (by (with_reducible repeat (first | apply Kd.V_alloc | apply Kd.V_drewN | apply Kd.V_drew)); exact HO0_0.out) gb264 (Nat.le_of_eq hg.symm)) hb); replace BK262 := Bb_ BK262 hb; replace BK263 := Bb_ BK263 hb; replace HB := Hs_ HB hb; clear hb hbox hg))
              have n0_ := Aside0.mk (Kd.V_drew HO0_0.out)
              have n1_ := Aside0.mk (blk_drew BK262.out)
              have n2_ := Aside0.mk (blk_drew BK263.out)
              have n3_ := Aside0.mk (blk_drew BK264.out)
              have n4_ := Aside0.mk (below_drew1 HB.out)
              clear HO0_0
              clear BK262
              clear BK263
              clear BK264
              clear HB
              have HO0_0 := n0_
              have BK262 := n1_
              have BK263 := n2_
              have BK264 := n3_
              have HB := n4_
              clear n0_ n1_ n2_ n3_ n4_
              have p265 : 0 ≤ ((ji11) : Int) := of_decide_eq_true As_
              have q265 : (ji11) < (l1_0.length : Int) := of_decide_eq_true As_
              obtain ⟨ad265, e265, hx265_0⟩ := Kd.at_int HR1_0.out (ji11) p265 q265
              have hw265_0 := hx265_0
              cases e265
              replace hx265_0 := (HB.out.cell (World.block_lt_of_cell? w _ hx265_0)).trans hx265_0
              replace p265 := eq_true p265
              replace q265 := eq_true q265
              refine start_ (n := 17) (S := fun w' => w'.cell? ⟨gb263, 0, none⟩ = some (.slice (some ad265) l1_0.length c1_0) ∧ w'.cell? ⟨gb263, 1, none⟩ = some (.slice A1_1 l1_1.length c1_1) ∧ w'.cell? ⟨gb263, 2, none⟩ = some (.slice A1_2 l1_2.length c1_2) ∧ w'.cell? ⟨gb263, 3, none⟩ = some (.int .i64 a1_3) ∧ w'.cell? ⟨gb262, 0, none⟩ = some (.slice A0_0 l0_0.length c0_0) ∧ w'.cell? ⟨gb262, 1, none⟩ = some (.slice A0_1 l0_1.length c0_1) ∧ w'.cell? ⟨gb262, 2, none⟩ = some (.slice A0_2 l0_2.length c0_2) ∧ w'.cell? (ad265.add ((ji11)).toNat) = some (.int .i64 (rd l1_0 (ji11)))) (ds := []) #[false, false, false, false, false, false, false, false, false, false, false, false, false, false, false, false, false] (by kernel_rfl) rfl rfl ⟨(blk_cell BK263.out 0).trans rfl, (blk_cell BK263.out 1).trans rfl, (blk_cell BK263.out 2).trans rfl, (blk_cell BK263.out 3).trans rfl, (blk_cell BK262.out 0).trans rfl, (blk_cell BK262.out 1).trans rfl, (blk_cell BK262.out 2).trans rfl, ((HB.out.cell (World.block_lt_of_cell? w _ hw265_0)).trans hw265_0)⟩ (fun hHeld => ?_); refine with_tabW impl_comesNext.tab1 impl_comesNext.bits1 (fun HT_ HW_ => ?_)
              generalize w20.drew = w21 at HO0_0 BK262 BK263 BK264 HB hx265_0 hHeld ⊢
              refine pure_ (i := 0) (N := some 6) (v := ?_) (a' := ?_) #[true, false, false, false, false, false, false, false, false, false, false, false, false, false, false, false, false] rfl rfl (any_of HT_.out (by kernel_rfl)) (fun _ _ _ h => h) (Or.inl ⟨by rfl, ?_⟩) ?_ ?_
              rotate_left
              · intro w'
                go_simp
                with_reducible rfl
              rotate_left
              · simp only [Act.put, List.setIfInBounds_toArray, List.set_cons_zero, List.set_cons_succ, i64_w, i32_w]
                rfl
              refine take_ (i := 1) (N := some 7) (v := ?_) (a' := ?_) #[true, true, false, false, false, false, false, false, false, false, false, false, false, false, false, false, false] rfl rfl (take_ofW HT_.out HW_.out (by kernel_rfl)) (fun _ _ _ h => h) (Or.inl ⟨by rfl, ?_⟩) hHeld ?_ ?_
              rotate_left
              · rintro w' ⟨s0, s1, s2, s3, s4, s5, s6, s7⟩
                go_simp
                with_reducible rfl
              rotate_left
              · simp only [Act.put, List.setIfInBounds_toArray, List.set_cons_zero, List.set_cons_succ, i64_w, i32_w]
                rfl
              refine pure_ (i := 2) (N := some 8) (v := ?_) (a' := ?_) #[true, true, true, false, false, false, false, false, false, false, false, false, false, false, false, false, false] rfl rfl (any_of HT_.out (by kernel_rfl)) (fun _ _ _ h => h) (Or.inl ⟨by rfl, ?_⟩) ?_ ?_
              rotate_left
              · intro w'
                go_simp
                with_reducible rfl
              rotate_left
              · simp only [Act.put, List.setIfInBounds_toArray, List.set_cons_zero, List.set_cons_succ, i64_w, i32_w]
                rfl
              refine pure_ (i := 3) (N := some 9) (v := ?_) (a' := ?_) #[true, true, true, true, false, false, false, false, false, false, false, false, false, false, false, false, false] rfl rfl (any_of HT_.out (by kernel_rfl)) (fun _ _ _ h => h) (Or.inl ⟨by rfl, ?_⟩) ?_ ?_
              rotate_left
              · intro w'
                go_simp
                with_reducible rfl
              rotate_left
              · simp only [Act.put, List.setIfInBounds_toArray, List.set_cons_zero, List.set_cons_succ, i64_w, i32_w]
                rfl
              refine pure_ (i := 4) (N := some 10) (v := ?_) (a' := ?_) #[true, true, true, true, true, false, false, false, false, false, false, false, false, false, false, false, false] rfl rfl (any_of HT_.out (by kernel_rfl)) (fun _ _ _ h => h) (Or.inl ⟨by rfl, ?_⟩) ?_ ?_
              rotate_left
              · intro w'
                go_simp
                with_reducible rfl
              rotate_left
              · simp only [Act.put, List.setIfInBounds_toArray, List.set_cons_zero, List.set_cons_succ, i64_w, i32_w]
                rfl
              refine pure_ (i := 6) (N := some 12) (v := ?_) (a' := ?_) #[true, true, true, true, true, false, true, false, false, false, false, false, false, false, false, false, false] rfl rfl (any_of HT_.out (by kernel_rfl)) (fun _ _ _ h => h) (Or.inl ⟨by rfl, ?_⟩) ?_ ?_
              rotate_left
              · intro w'
                go_simp
                with_reducible rfl
              rotate_left
              · simp only [Act.put, List.setIfInBounds_toArray, List.set_cons_zero, List.set_cons_succ, i64_w, i32_w]
                rfl
              refine pure_ (i := 8) (N := some 14) (v := ?_) (a' := ?_) #[true, true, true, true, true, false, true, false, true, false, false, false, false, false, false, false, false] rfl rfl (any_of HT_.out (by kernel_rfl)) (fun _ _ _ h => h) (Or.inl ⟨by rfl, ?_⟩) ?_ ?_
              rotate_left
              · intro w'
                go_simp
                with_reducible rfl
              rotate_left
              · simp only [Act.put, List.setIfInBounds_toArray, List.set_cons_zero, List.set_cons_succ, i64_w, i32_w]
                rfl
              refine take_ (i := 5) (N := some 11) (v := ?_) (a' := ?_) #[true, true, true, true, true, true, true, false, true, false, false, false, false, false, false, false, false] rfl rfl (take_ofW HT_.out HW_.out (by kernel_rfl)) (fun _ _ _ h => h) (Or.inl ⟨by rfl, ?_⟩) hHeld ?_ ?_
              rotate_left
              · rintro w' ⟨s0, s1, s2, s3, s4, s5, s6, s7⟩
                go_simp
                with_reducible rfl
              rotate_left
              · simp only [Act.put, List.setIfInBounds_toArray, List.set_cons_zero, List.set_cons_succ, i64_w, i32_w]
                rfl
              refine take_ (i := 7) (N := some 13) (v := ?_) (a' := ?_) #[true, true, true, true, true, true, true, true, true, false, false, false, false, false, false, false, false] rfl rfl (take_ofW HT_.out HW_.out (by kernel_rfl)) (fun _ _ _ h => h) (Or.inl ⟨by rfl, ?_⟩) hHeld ?_ ?_
              rotate_left
              · rintro w' ⟨s0, s1, s2, s3, s4, s5, s6, s7⟩
                go_simp
                with_reducible rfl
              rotate_left
              · simp only [Act.put, List.setIfInBounds_toArray, List.set_cons_zero, List.set_cons_succ, i64_w, i32_w]
                rfl
              refine take_ (i := 9) (N := some 15) (v := ?_) (a' := ?_) #[true, true, true, true, true, true, true, true, true, true, false, false, false, false, false, false, false] rfl rfl (take_ofW HT_.out HW_.out (by kernel_rfl)) (fun _ _ _ h => h) (Or.inl ⟨by rfl, ?_⟩) hHeld ?_ ?_
              rotate_left
              · rintro w' ⟨s0, s1, s2, s3, s4, s5, s6, s7⟩
                go_simp
                with_reducible rfl
              rotate_left
              · simp only [Act.put, List.setIfInBounds_toArray, List.set_cons_zero, List.set_cons_succ, i64_w, i32_w]
                rfl
              refine pure_ (i := 10) (N := some 16) (v := ?_) (a' := ?_) #[true, true, true, true, true, true, true, true, true, true, true, false, false, false, false, false, false] rfl rfl (any_of HT_.out (by kernel_rfl)) (fun _ _ _ h => h) (Or.inl ⟨by rfl, ?_⟩) ?_ ?_
              rotate_left
              · intro w'
                go_simp
                with_reducible rfl
              rotate_left
              · simp only [Act.put, List.setIfInBounds_toArray, List.set_cons_zero, List.set_cons_succ, i64_w, i32_w]
                rfl
              refine pure_ (i := 11) (N := some 17) (v := ?_) (a' := ?_) #[true, true, true, true, true, true, true, true, true, true, true, true, false, false, false, false, false] rfl rfl (any_of HT_.out (by kernel_rfl)) (fun _ _ _ h => h) (Or.inl ⟨by rfl, ?_⟩) ?_ ?_
              rotate_left
              · intro w'
                go_simp
                with_reducible rfl
              rotate_left
              · simp only [Act.put, List.setIfInBounds_toArray, List.set_cons_zero, List.set_cons_succ, i64_w, i32_w]
                rfl
              refine pure_ (i := 12) (N := some 18) (v := ?_) (a' := ?_) #[true, true, true, true, true, true, true, true, true, true, true, true, true, false, false, false, false] rfl rfl (any_of HT_.out (by kernel_rfl)) (fun _ _ _ h => h) (Or.inl ⟨by rfl, ?_⟩) ?_ ?_
              rotate_left
              · intro w'
                go_simp
                with_reducible rfl
              rotate_left
              · simp only [Act.put, List.setIfInBounds_toArray, List.set_cons_zero, List.set_cons_succ, i64_w, i32_w]
                rfl
              refine take_ (i := 13) (N := some 19) (v := ?_) (a' := ?_) #[true, true, true, true, true, true, true, true, true, true, true, true, true, true, false, false, false] rfl rfl (take_ofW HT_.out HW_.out (by kernel_rfl)) (fun _ _ _ h => h) (Or.inl ⟨by rfl, ?_⟩) hHeld ?_ ?_
              rotate_left
              · rintro w' ⟨s0, s1, s2, s3, s4, s5, s6, s7⟩
                go_simp
                with_reducible rfl
              rotate_left
              · simp only [Act.put, List.setIfInBounds_toArray, List.set_cons_zero, List.set_cons_succ, i64_w, i32_w]
                rfl
              refine one_ (i := 14) (N := some 20) #[true, true, true, true, true, true, true, true, true, true, true, true, true, true, true, false, false] rfl rfl (one_of HT_.out (by kernel_rfl)) (by decide) (fun K hK => ?_)
              refine goes_ Try.func78 (by kernel_rfl) rfl #[.agg #[.slice A0_0 l0_0.length c0_0, .slice A0_1 l0_1.length c0_1, .slice A0_2 l0_2.length c0_2], .int .i64 (rd l1_0 (ji11))] (by rfl) rfl rfl (by (try simp only [List.map_toArray, List.map_cons, List.map_nil]); first | done | (simp only [hji11]; rfl) | rfl | (simp only [List.length_drop, List.length_take]; rfl)) ?_
              with_reducible refine (impl_isNode.calls _ _ l0_0 _ _ l0_1 _ _ l0_2 (rd l1_0 (ji11)) true _ ?side1 ?side2 ?side3 ?side4 ?side5 ?side6 A14.out).mono ?_
              (case side1 => repeat (first | exact (Kd.V_reads' HO0_0.out).2.2 | (with_reducible refine Kd.C_alloc ?_ _) | (with_reducible refine Kd.C_drewN ?_ _) | (with_reducible refine Kd.C_drew ?_)))
              (case side2 => exact (Kd.V_reads' HO0_0.out).2.1)
              (case side3 => exact Sc_ HR0_1 HB)
              (case side4 => exact HC0_1.out)
              (case side5 => exact Sc_ HR0_2 HB)
              (case side6 => exact HC0_2.out)
              rintro e w22 ⟨rfl, hb⟩
              refine ⟨_, rfl, ?_⟩
              have n0_ := Aside0.mk (Kd.V_below (by (with_reducible repeat (first | apply Kd.V_alloc | apply Kd.V_drewN | apply Kd.V_drew)); exact HO0_0.out) hb)
              have n1_ := Bb_ BK262 hb
              have n2_ := Bb_ BK263 hb
              have n3_ := Bb_ BK264 hb
              have n4_ := Hs_ HB hb
              clear HO0_0
              clear BK262
              clear BK263
              clear BK264
              clear HB
              have HO0_0 := n0_
              have BK262 := n1_
              have BK263 := n2_
              have BK264 := n3_
              have HB := n4_
              clear n0_ n1_ n2_ n3_ n4_
              (try clear hb)
              (try clear hb2)
              (try clear hk)
              (try clear hi)
              refine hK.out _ _ ⟨(blk_cell BK263.out 0).trans rfl, (blk_cell BK263.out 1).trans rfl, (blk_cell BK263.out 2).trans rfl, (blk_cell BK263.out 3).trans rfl, (blk_cell BK262.out 0).trans rfl, (blk_cell BK262.out 1).trans rfl, (blk_cell BK262.out 2).trans rfl, ((HB.out.cell (World.block_lt_of_cell? w _ hw265_0)).trans hw265_0)⟩ (fun hHeld => ?_)
              clear hK K
              refine norm_ (a' := ?_) ?_ ?_
              rotate_left
              · show Act.put _ (some 20) _ = _
                simp only [Act.put, List.setIfInBounds_toArray, List.set_cons_zero, List.set_cons_succ, i64_w, i32_w]
                rfl
              refine pure_ (i := 15) (N := some 21) (v := ?_) (a' := ?_) #[true, true, true, true, true, true, true, true, true, true, true, true, true, true, true, true, false] rfl rfl (any_of HT_.out (by kernel_rfl)) (fun _ _ _ h => h) (Or.inl ⟨by rfl, ?_⟩) ?_ ?_
              rotate_left
              · intro w'
                go_simp
                with_reducible rfl
              rotate_left
              · simp only [Act.put, List.setIfInBounds_toArray, List.set_cons_zero, List.set_cons_succ, i64_w, i32_w]
                rfl
              refine pure_ (i := 16) (N := some 22) (v := ?_) (a' := ?_) #[true, true, true, true, true, true, true, true, true, true, true, true, true, true, true, true, true] rfl rfl (any_of HT_.out (by kernel_rfl)) (fun _ _ _ h => h) (Or.inl ⟨by rfl, ?_⟩) ?_ ?_
              rotate_left
              · intro w'
                go_simp
                with_reducible rfl
              rotate_left
              · simp only [Act.put, List.setIfInBounds_toArray, List.set_cons_zero, List.set_cons_succ, i64_w, i32_w]
                rfl
              refine done_ (done_of HT_.out (by kernel_rfl)) ?_
              try go_wp2
              have n0_ := Aside0.mk (Kd.V_drew HO0_0.out)
              have n1_ := Aside0.mk (blk_drew BK262.out)
              have n2_ := Aside0.mk (blk_drew BK263.out)
              have n3_ := Aside0.mk (blk_drew BK264.out)
              have n4_ := Aside0.mk (below_drew1 HB.out)
              clear HO0_0
              clear BK262
              clear BK263
              clear BK264
              clear HB
              have HO0_0 := n0_
              have BK262 := n1_
              have BK263 := n2_
              have BK264 := n3_
              have HB := n4_
              clear n0_ n1_ n2_ n3_ n4_
              have p267 : 0 ≤ ((ji11) : Int) := of_decide_eq_true As_
              have q267 : (ji11) < (l1_0.length : Int) := of_decide_eq_true As_
              obtain ⟨ad267, e267, hx267_0⟩ := Kd.at_int HR1_0.out (ji11) p267 q267
              have hw267_0 := hx267_0
              obtain rfl : ad265 = ad267 := (by injection e267)
              replace hx267_0 := (HB.out.cell (World.block_lt_of_cell? w _ hx267_0)).trans hx267_0
              replace p267 := eq_true p267
              replace q267 := eq_true q267
              have p268 : 0 ≤ ((rd l1_0 (ji11)) : Int) := of_decide_eq_true As_
              have q268 : (rd l1_0 (ji11)) < (l0_0.length : Int) := of_decide_eq_true As_
              obtain ⟨ad268, A268_5, c268_5, e268, hx268_0, hx268_1, hx268_2, hx268_3, hx268_4, hx268_5, hl268_5, hi268_5⟩ := at_T77 (Kd.V_reads' HO0_0.out).2.2 (rd l1_0 (ji11)) p268 q268
              cases e268
              obtain ⟨ce268, hce268, hMe268, hcc268⟩ := Kd.V_get HO0_0.out z77 (rd l1_0 (ji11)) p268 (by first | exact q268 | exact of_decide_eq_true As_ | (have e_ := (Kd.V_reads' HO0_0.out).1; omega))
              obtain ⟨ua268_5, uc268_5, rfl, ul268_5, ge268_5⟩ := k77_openF hMe268
              have hv268_5 := hcc268 5 _ rfl
              rw [add_field _ _ 5 (by omega)] at hv268_5
              replace hv268_5 := Option.some.inj (hv268_5.symm.trans hx268_5)
              injection hv268_5 with hva_ hvn_ hvc_
              rw [hva_] at ge268_5
              rw [hvc_] at ul268_5
              have HL268_5 := Aside0.mk (show Kd.V (Kd.int .i64) 3 _ w.heap.size _ _ ((rd_T77 l0_0 (rd l1_0 (ji11))).f5) from Kd.V_mk ul268_5 ge268_5)
              clear hva_ hvn_ hvc_ ge268_5 ul268_5
              clear hcc268 hce268
              have HR268_5 := Aside0.mk hi268_5
              have HC268_5 := Aside0.mk hl268_5
              clear hi268_5 hl268_5
              replace p268 := eq_true p268
              replace q268 := eq_true q268
              refine start_ (n := 14) (S := fun w' => w'.cell? ⟨gb262, 0, none⟩ = some (.slice (some ad268) l0_0.length c0_0) ∧ w'.cell? ⟨gb262, 1, none⟩ = some (.slice A0_1 l0_1.length c0_1) ∧ w'.cell? ⟨gb262, 2, none⟩ = some (.slice A0_2 l0_2.length c0_2) ∧ w'.cell? ⟨gb263, 0, none⟩ = some (.slice (some ad265) l1_0.length c1_0) ∧ w'.cell? ⟨gb263, 1, none⟩ = some (.slice A1_1 l1_1.length c1_1) ∧ w'.cell? ⟨gb263, 2, none⟩ = some (.slice A1_2 l1_2.length c1_2) ∧ w'.cell? ⟨gb263, 3, none⟩ = some (.int .i64 a1_3) ∧ w'.cell? (ad265.add ((ji11)).toNat) = some (.int .i64 (rd l1_0 (ji11))) ∧ w'.cell? (ad268.add (((rd l1_0 (ji11))).toNat * 6)) = some (.int .i64 ((rd_T77 l0_0 (rd l1_0 (ji11))).f0)) ∧ w'.cell? ⟨(ad268.add (((rd l1_0 (ji11))).toNat * 6)).block, (ad268.add (((rd l1_0 (ji11))).toNat * 6)).off + 1, none⟩ = some (.int .i64 ((rd_T77 l0_0 (rd l1_0 (ji11))).f1)) ∧ w'.cell? ⟨(ad268.add (((rd l1_0 (ji11))).toNat * 6)).block, (ad268.add (((rd l1_0 (ji11))).toNat * 6)).off + 2, none⟩ = some (.string ((rd_T77 l0_0 (rd l1_0 (ji11))).f2)) ∧ w'.cell? ⟨(ad268.add (((rd l1_0 (ji11))).toNat * 6)).block, (ad268.add (((rd l1_0 (ji11))).toNat * 6)).off + 3, none⟩ = some (.string ((rd_T77 l0_0 (rd l1_0 (ji11))).f3)) ∧ w'.cell? ⟨(ad268.add (((rd l1_0 (ji11))).toNat * 6)).block, (ad268.add (((rd l1_0 (ji11))).toNat * 6)).off + 4, none⟩ = some (.string ((rd_T77 l0_0 (rd l1_0 (ji11))).f4)) ∧ w'.cell? ⟨(ad268.add (((rd l1_0 (ji11))).toNat * 6)).block, (ad268.add (((rd l1_0 (ji11))).toNat * 6)).off + 5, none⟩ = some (.slice A268_5 ((rd_T77 l0_0 (rd l1_0 (ji11))).f5).length c268_5)) (ds := []) #[false, false, false, false, false, false, false, false, false, false, false, false, false, false] (by kernel_rfl) rfl rfl ⟨(blk_cell BK262.out 0).trans rfl, (blk_cell BK262.out 1).trans rfl, (blk_cell BK262.out 2).trans rfl, (blk_cell BK263.out 0).trans rfl, (blk_cell BK263.out 1).trans rfl, (blk_cell BK263.out 2).trans rfl, (blk_cell BK263.out 3).trans rfl, ((HB.out.cell (World.block_lt_of_cell? w _ hw267_0)).trans hw267_0), hx268_0, hx268_1, hx268_2, hx268_3, hx268_4, hx268_5⟩ (fun hHeld => ?_); refine with_tabW impl_comesNext.tab3 impl_comesNext.bits3 (fun HT_ HW_ => ?_)
              generalize w22.drew = w23 at HO0_0 BK262 BK263 BK264 HB HL268_5 HR268_5 hx267_0 hx268_0 hx268_1 hx268_2 hx268_3 hx268_4 hx268_5 hHeld ⊢
              refine pure_ (i := 0) (N := some 24) (v := ?_) (a' := ?_) #[true, false, false, false, false, false, false, false, false, false, false, false, false, false] rfl rfl (any_of HT_.out (by kernel_rfl)) (fun _ _ _ h => h) (Or.inl ⟨by rfl, ?_⟩) ?_ ?_
              rotate_left
              · intro w'
                go_simp
                with_reducible rfl
              rotate_left
              · simp only [Act.put, List.setIfInBounds_toArray, List.set_cons_zero, List.set_cons_succ, i64_w, i32_w]
                rfl
              refine pure_ (i := 2) (N := some 26) (v := ?_) (a' := ?_) #[true, false, true, false, false, false, false, false, false, false, false, false, false, false] rfl rfl (any_of HT_.out (by kernel_rfl)) (fun _ _ _ h => h) (Or.inl ⟨by rfl, ?_⟩) ?_ ?_
              rotate_left
              · intro w'
                go_simp
                with_reducible rfl
              rotate_left
              · simp only [Act.put, List.setIfInBounds_toArray, List.set_cons_zero, List.set_cons_succ, i64_w, i32_w]
                rfl
              refine pure_ (i := 4) (N := some 28) (v := ?_) (a' := ?_) #[true, false, true, false, true, false, false, false, false, false, false, false, false, false] rfl rfl (any_of HT_.out (by kernel_rfl)) (fun _ _ _ h => h) (Or.inl ⟨by rfl, ?_⟩) ?_ ?_
              rotate_left
              · intro w'
                go_simp
                with_reducible rfl
              rotate_left
              · simp only [Act.put, List.setIfInBounds_toArray, List.set_cons_zero, List.set_cons_succ, i64_w, i32_w]
                rfl
              refine take_ (i := 1) (N := some 25) (v := ?_) (a' := ?_) #[true, true, true, false, true, false, false, false, false, false, false, false, false, false] rfl rfl (take_ofW HT_.out HW_.out (by kernel_rfl)) (fun _ _ _ h => h) (Or.inl ⟨by rfl, ?_⟩) hHeld ?_ ?_
              rotate_left
              · rintro w' ⟨s0, s1, s2, s3, s4, s5, s6, s7, s8, s9, s10, s11, s12, s13⟩
                go_simp
                with_reducible rfl
              rotate_left
              · simp only [Act.put, List.setIfInBounds_toArray, List.set_cons_zero, List.set_cons_succ, i64_w, i32_w]
                rfl
              refine take_ (i := 3) (N := some 27) (v := ?_) (a' := ?_) #[true, true, true, true, true, false, false, false, false, false, false, false, false, false] rfl rfl (take_ofW HT_.out HW_.out (by kernel_rfl)) (fun _ _ _ h => h) (Or.inl ⟨by rfl, ?_⟩) hHeld ?_ ?_
              rotate_left
              · rintro w' ⟨s0, s1, s2, s3, s4, s5, s6, s7, s8, s9, s10, s11, s12, s13⟩
                go_simp
                with_reducible rfl
              rotate_left
              · simp only [Act.put, List.setIfInBounds_toArray, List.set_cons_zero, List.set_cons_succ, i64_w, i32_w]
                rfl
              refine take_ (i := 5) (N := some 29) (v := ?_) (a' := ?_) #[true, true, true, true, true, true, false, false, false, false, false, false, false, false] rfl rfl (take_ofW HT_.out HW_.out (by kernel_rfl)) (fun _ _ _ h => h) (Or.inl ⟨by rfl, ?_⟩) hHeld ?_ ?_
              rotate_left
              · rintro w' ⟨s0, s1, s2, s3, s4, s5, s6, s7, s8, s9, s10, s11, s12, s13⟩
                go_simp
                with_reducible rfl
              rotate_left
              · simp only [Act.put, List.setIfInBounds_toArray, List.set_cons_zero, List.set_cons_succ, i64_w, i32_w]
                rfl
              refine pure_ (i := 6) (N := some 30) (v := ?_) (a' := ?_) #[true, true, true, true, true, true, true, false, false, false, false, false, false, false] rfl rfl (any_of HT_.out (by kernel_rfl)) (fun _ _ _ h => h) (Or.inl ⟨by rfl, ?_⟩) ?_ ?_
              rotate_left
              · intro w'
                go_simp
                with_reducible rfl
              rotate_left
              · simp only [Act.put, List.setIfInBounds_toArray, List.set_cons_zero, List.set_cons_succ, i64_w, i32_w]
                rfl
              refine pure_ (i := 7) (N := some 31) (v := ?_) (a' := ?_) #[true, true, true, true, true, true, true, true, false, false, false, false, false, false] rfl rfl (any_of HT_.out (by kernel_rfl)) (fun _ _ _ h => h) (Or.inl ⟨by rfl, ?_⟩) ?_ ?_
              rotate_left
              · intro w'
                go_simp
                with_reducible rfl
              rotate_left
              · simp only [Act.put, List.setIfInBounds_toArray, List.set_cons_zero, List.set_cons_succ, i64_w, i32_w]
                rfl
              refine pure_ (i := 8) (N := some 32) (v := ?_) (a' := ?_) #[true, true, true, true, true, true, true, true, true, false, false, false, false, false] rfl rfl (any_of HT_.out (by kernel_rfl)) (fun _ _ _ h => h) (Or.inl ⟨by rfl, ?_⟩) ?_ ?_
              rotate_left
              · intro w'
                go_simp
                with_reducible rfl
              rotate_left
              · simp only [Act.put, List.setIfInBounds_toArray, List.set_cons_zero, List.set_cons_succ, i64_w, i32_w]
                rfl
              refine take_ (i := 9) (N := some 33) (v := ?_) (a' := ?_) #[true, true, true, true, true, true, true, true, true, true, false, false, false, false] rfl rfl (take_ofW HT_.out HW_.out (by kernel_rfl)) (fun _ _ _ h => h) (Or.inl ⟨by rfl, ?_⟩) hHeld ?_ ?_
              rotate_left
              · rintro w' ⟨s0, s1, s2, s3, s4, s5, s6, s7, s8, s9, s10, s11, s12, s13⟩
                go_simp
                with_reducible rfl
              rotate_left
              · simp only [Act.put, List.setIfInBounds_toArray, List.set_cons_zero, List.set_cons_succ, i64_w, i32_w]
                rfl
              refine pure_ (i := 10) (N := some 34) (v := ?_) (a' := ?_) #[true, true, true, true, true, true, true, true, true, true, true, false, false, false] rfl rfl (any_of HT_.out (by kernel_rfl)) (fun _ _ _ h => h) (Or.inl ⟨by rfl, ?_⟩) ?_ ?_
              rotate_left
              · intro w'
                go_simp
                with_reducible rfl
              rotate_left
              · simp only [Act.put, List.setIfInBounds_toArray, List.set_cons_zero, List.set_cons_succ, i64_w, i32_w]
                rfl
              refine take_ (i := 11) (N := some 35) (v := ?_) (a' := ?_) #[true, true, true, true, true, true, true, true, true, true, true, true, false, false] rfl rfl (take_ofW HT_.out HW_.out (by kernel_rfl)) (fun _ _ _ h => h) (Or.inl ⟨by rfl, ?_⟩) hHeld ?_ ?_
              rotate_left
              · rintro w' ⟨s0, s1, s2, s3, s4, s5, s6, s7, s8, s9, s10, s11, s12, s13⟩
                go_simp
                with_reducible rfl
              rotate_left
              · simp only [Act.put, List.setIfInBounds_toArray, List.set_cons_zero, List.set_cons_succ, i64_w, i32_w]
                rfl
              refine one_ (i := 12) (N := none) #[true, true, true, true, true, true, true, true, true, true, true, true, true, false] rfl rfl (one_of HT_.out (by kernel_rfl)) (by decide) (fun K hK => ?_)
              have hs24 : w23.cell? ⟨gb264, 0, none⟩ = some (.int .i64 0) := (blk_cell BK264.out 0).trans rfl
              have hfs24 := blk_frozen BK264.out 0
              have hns24_0 := NB262_264.out
              have hns24_1 := NB263_264.out
              have hms24_0 := NB264_262.out
              have hms24_1 := NB264_263.out
              have hs25 : w23.cell? ⟨gb264, 1, none⟩ = some (.int .i64 0) := (blk_cell BK264.out 1).trans rfl
              have hfs25 := blk_frozen BK264.out 1
              have hns25_0 := NB262_264.out
              have hns25_1 := NB263_264.out
              have hms25_0 := NB264_262.out
              have hms25_1 := NB264_263.out
              have hs26 : w23.cell? ⟨gb264, 2, none⟩ = some (.string (⟨#[]⟩ : ByteArray)) := (blk_cell BK264.out 2).trans rfl
              have hfs26 := blk_frozen BK264.out 2
              have hns26_0 := NB262_264.out
              have hns26_1 := NB263_264.out
              have hms26_0 := NB264_262.out
              have hms26_1 := NB264_263.out
              have hs27 : w23.cell? ⟨gb264, 3, none⟩ = some (.string (⟨#[]⟩ : ByteArray)) := (blk_cell BK264.out 3).trans rfl
              have hfs27 := blk_frozen BK264.out 3
              have hns27_0 := NB262_264.out
              have hns27_1 := NB263_264.out
              have hms27_0 := NB264_262.out
              have hms27_1 := NB264_263.out
              have hs28 : w23.cell? ⟨gb264, 4, none⟩ = some (.string (⟨#[]⟩ : ByteArray)) := (blk_cell BK264.out 4).trans rfl
              have hfs28 := blk_frozen BK264.out 4
              have hns28_0 := NB262_264.out
              have hns28_1 := NB263_264.out
              have hms28_0 := NB264_262.out
              have hms28_1 := NB264_263.out
              have hs29 : w23.cell? ⟨gb264, 5, none⟩ = some (.slice none 0 0) := (blk_cell BK264.out 5).trans rfl
              have hfs29 := blk_frozen BK264.out 5
              have hns29_0 := NB262_264.out
              have hns29_1 := NB263_264.out
              have hms29_0 := NB264_262.out
              have hms29_1 := NB264_263.out
              refine skip_ (w1 := ?_) (by rfl) rfl ?_ ?_
              rotate_left
              · go_simp
                rfl
              refine hK.out _ _ ⟨((cell_far (p := ⟨gb264, _, none⟩) NB262_264.out _).trans (((cell_far (p := ⟨gb264, _, none⟩) NB262_264.out _).trans (((cell_far (p := ⟨gb264, _, none⟩) NB262_264.out _).trans (((cell_far (p := ⟨gb264, _, none⟩) NB262_264.out _).trans (((cell_far (p := ⟨gb264, _, none⟩) NB262_264.out _).trans (((cell_far (p := ⟨gb264, _, none⟩) NB262_264.out _).trans (hHeld.1)))))))))))), ((cell_far (p := ⟨gb264, _, none⟩) NB262_264.out _).trans (((cell_far (p := ⟨gb264, _, none⟩) NB262_264.out _).trans (((cell_far (p := ⟨gb264, _, none⟩) NB262_264.out _).trans (((cell_far (p := ⟨gb264, _, none⟩) NB262_264.out _).trans (((cell_far (p := ⟨gb264, _, none⟩) NB262_264.out _).trans (((cell_far (p := ⟨gb264, _, none⟩) NB262_264.out _).trans (hHeld.2.1)))))))))))), ((cell_far (p := ⟨gb264, _, none⟩) NB262_264.out _).trans (((cell_far (p := ⟨gb264, _, none⟩) NB262_264.out _).trans (((cell_far (p := ⟨gb264, _, none⟩) NB262_264.out _).trans (((cell_far (p := ⟨gb264, _, none⟩) NB262_264.out _).trans (((cell_far (p := ⟨gb264, _, none⟩) NB262_264.out _).trans (((cell_far (p := ⟨gb264, _, none⟩) NB262_264.out _).trans (hHeld.2.2.1)))))))))))), ((cell_far (p := ⟨gb264, _, none⟩) NB263_264.out _).trans (((cell_far (p := ⟨gb264, _, none⟩) NB263_264.out _).trans (((cell_far (p := ⟨gb264, _, none⟩) NB263_264.out _).trans (((cell_far (p := ⟨gb264, _, none⟩) NB263_264.out _).trans (((cell_far (p := ⟨gb264, _, none⟩) NB263_264.out _).trans (((cell_far (p := ⟨gb264, _, none⟩) NB263_264.out _).trans (hHeld.2.2.2.1)))))))))))), ((cell_far (p := ⟨gb264, _, none⟩) NB263_264.out _).trans (((cell_far (p := ⟨gb264, _, none⟩) NB263_264.out _).trans (((cell_far (p := ⟨gb264, _, none⟩) NB263_264.out _).trans (((cell_far (p := ⟨gb264, _, none⟩) NB263_264.out _).trans (((cell_far (p := ⟨gb264, _, none⟩) NB263_264.out _).trans (((cell_far (p := ⟨gb264, _, none⟩) NB263_264.out _).trans (hHeld.2.2.2.2.1)))))))))))), ((cell_far (p := ⟨gb264, _, none⟩) NB263_264.out _).trans (((cell_far (p := ⟨gb264, _, none⟩) NB263_264.out _).trans (((cell_far (p := ⟨gb264, _, none⟩) NB263_264.out _).trans (((cell_far (p := ⟨gb264, _, none⟩) NB263_264.out _).trans (((cell_far (p := ⟨gb264, _, none⟩) NB263_264.out _).trans (((cell_far (p := ⟨gb264, _, none⟩) NB263_264.out _).trans (hHeld.2.2.2.2.2.1)))))))))))), ((cell_far (p := ⟨gb264, _, none⟩) NB263_264.out _).trans (((cell_far (p := ⟨gb264, _, none⟩) NB263_264.out _).trans (((cell_far (p := ⟨gb264, _, none⟩) NB263_264.out _).trans (((cell_far (p := ⟨gb264, _, none⟩) NB263_264.out _).trans (((cell_far (p := ⟨gb264, _, none⟩) NB263_264.out _).trans (((cell_far (p := ⟨gb264, _, none⟩) NB263_264.out _).trans (hHeld.2.2.2.2.2.2.1)))))))))))), ((cell_far (p := ⟨gb264, _, none⟩) (by first | exact Nat.ne_of_lt (Nat.lt_of_lt_of_le (by have := World.block_lt_of_cell? _ _ hw267_0; first | rwa [add_block] at this | exact this) GW264.out) | (rw [add_block]; exact Nat.ne_of_lt (Nat.lt_of_lt_of_le (by have := World.block_lt_of_cell? _ _ hw267_0; first | rwa [add_block] at this | exact this) GW264.out)) | (show (Addr.add _ _).block ≠ _; rw [add_block]; exact Nat.ne_of_lt (Nat.lt_of_lt_of_le (by have := World.block_lt_of_cell? _ _ hw267_0; first | rwa [add_block] at this | exact this) GW264.out)) | (dsimp only; exact Nat.ne_of_lt (Nat.lt_of_lt_of_le (by have := World.block_lt_of_cell? _ _ hw267_0; first | rwa [add_block] at this | exact this) GW264.out))) _).trans (((cell_far (p := ⟨gb264, _, none⟩) (by first | exact Nat.ne_of_lt (Nat.lt_of_lt_of_le (by have := World.block_lt_of_cell? _ _ hw267_0; first | rwa [add_block] at this | exact this) GW264.out) | (rw [add_block]; exact Nat.ne_of_lt (Nat.lt_of_lt_of_le (by have := World.block_lt_of_cell? _ _ hw267_0; first | rwa [add_block] at this | exact this) GW264.out)) | (show (Addr.add _ _).block ≠ _; rw [add_block]; exact Nat.ne_of_lt (Nat.lt_of_lt_of_le (by have := World.block_lt_of_cell? _ _ hw267_0; first | rwa [add_block] at this | exact this) GW264.out)) | (dsimp only; exact Nat.ne_of_lt (Nat.lt_of_lt_of_le (by have := World.block_lt_of_cell? _ _ hw267_0; first | rwa [add_block] at this | exact this) GW264.out))) _).trans (((cell_far (p := ⟨gb264, _, none⟩) (by first | exact Nat.ne_of_lt (Nat.lt_of_lt_of_le (by have := World.block_lt_of_cell? _ _ hw267_0; first | rwa [add_block] at this | exact this) GW264.out) | (rw [add_block]; exact Nat.ne_of_lt (Nat.lt_of_lt_of_le (by have := World.block_lt_of_cell? _ _ hw267_0; first | rwa [add_block] at this | exact this) GW264.out)) | (show (Addr.add _ _).block ≠ _; rw [add_block]; exact Nat.ne_of_lt (Nat.lt_of_lt_of_le (by have := World.block_lt_of_cell? _ _ hw267_0; first | rwa [add_block] at this | exact this) GW264.out)) | (dsimp only; exact Nat.ne_of_lt (Nat.lt_of_lt_of_le (by have := World.block_lt_of_cell? _ _ hw267_0; first | rwa [add_block] at this | exact this) GW264.out))) _).trans (((cell_far (p := ⟨gb264, _, none⟩) (by first | exact Nat.ne_of_lt (Nat.lt_of_lt_of_le (by have := World.block_lt_of_cell? _ _ hw267_0; first | rwa [add_block] at this | exact this) GW264.out) | (rw [add_block]; exact Nat.ne_of_lt (Nat.lt_of_lt_of_le (by have := World.block_lt_of_cell? _ _ hw267_0; first | rwa [add_block] at this | exact this) GW264.out)) | (show (Addr.add _ _).block ≠ _; rw [add_block]; exact Nat.ne_of_lt (Nat.lt_of_lt_of_le (by have := World.block_lt_of_cell? _ _ hw267_0; first | rwa [add_block] at this | exact this) GW264.out)) | (dsimp only; exact Nat.ne_of_lt (Nat.lt_of_lt_of_le (by have := World.block_lt_of_cell? _ _ hw267_0; first | rwa [add_block] at this | exact this) GW264.out))) _).trans (((cell_far (p := ⟨gb264, _, none⟩) (by first | exact Nat.ne_of_lt (Nat.lt_of_lt_of_le (by have := World.block_lt_of_cell? _ _ hw267_0; first | rwa [add_block] at this | exact this) GW264.out) | (rw [add_block]; exact Nat.ne_of_lt (Nat.lt_of_lt_of_le (by have := World.block_lt_of_cell? _ _ hw267_0; first | rwa [add_block] at this | exact this) GW264.out)) | (show (Addr.add _ _).block ≠ _; rw [add_block]; exact Nat.ne_of_lt (Nat.lt_of_lt_of_le (by have := World.block_lt_of_cell? _ _ hw267_0; first | rwa [add_block] at this | exact this) GW264.out)) | (dsimp only; exact Nat.ne_of_lt (Nat.lt_of_lt_of_le (by have := World.block_lt_of_cell? _ _ hw267_0; first | rwa [add_block] at this | exact this) GW264.out))) _).trans (((cell_far (p := ⟨gb264, _, none⟩) (by first | exact Nat.ne_of_lt (Nat.lt_of_lt_of_le (by have := World.block_lt_of_cell? _ _ hw267_0; first | rwa [add_block] at this | exact this) GW264.out) | (rw [add_block]; exact Nat.ne_of_lt (Nat.lt_of_lt_of_le (by have := World.block_lt_of_cell? _ _ hw267_0; first | rwa [add_block] at this | exact this) GW264.out)) | (show (Addr.add _ _).block ≠ _; rw [add_block]; exact Nat.ne_of_lt (Nat.lt_of_lt_of_le (by have := World.block_lt_of_cell? _ _ hw267_0; first | rwa [add_block] at this | exact this) GW264.out)) | (dsimp only; exact Nat.ne_of_lt (Nat.lt_of_lt_of_le (by have := World.block_lt_of_cell? _ _ hw267_0; first | rwa [add_block] at this | exact this) GW264.out))) _).trans (hHeld.2.2.2.2.2.2.2.1)))))))))))), ((cell_far (p := ⟨gb264, _, none⟩) (by first | exact Va_ HO0_0.out (by have := of_eq_true p268; have := of_eq_true q268; omega) (by first | decide | exact Nat.succ_pos _) (fun _ hk => hk.2) | (rw [add_block]; exact Va_ HO0_0.out (by have := of_eq_true p268; have := of_eq_true q268; omega) (by first | decide | exact Nat.succ_pos _) (fun _ hk => hk.2)) | (show (Addr.add _ _).block ≠ _; rw [add_block]; exact Va_ HO0_0.out (by have := of_eq_true p268; have := of_eq_true q268; omega) (by first | decide | exact Nat.succ_pos _) (fun _ hk => hk.2)) | (dsimp only; exact Va_ HO0_0.out (by have := of_eq_true p268; have := of_eq_true q268; omega) (by first | decide | exact Nat.succ_pos _) (fun _ hk => hk.2))) _).trans (((cell_far (p := ⟨gb264, _, none⟩) (by first | exact Va_ HO0_0.out (by have := of_eq_true p268; have := of_eq_true q268; omega) (by first | decide | exact Nat.succ_pos _) (fun _ hk => hk.2) | (rw [add_block]; exact Va_ HO0_0.out (by have := of_eq_true p268; have := of_eq_true q268; omega) (by first | decide | exact Nat.succ_pos _) (fun _ hk => hk.2)) | (show (Addr.add _ _).block ≠ _; rw [add_block]; exact Va_ HO0_0.out (by have := of_eq_true p268; have := of_eq_true q268; omega) (by first | decide | exact Nat.succ_pos _) (fun _ hk => hk.2)) | (dsimp only; exact Va_ HO0_0.out (by have := of_eq_true p268; have := of_eq_true q268; omega) (by first | decide | exact Nat.succ_pos _) (fun _ hk => hk.2))) _).trans (((cell_far (p := ⟨gb264, _, none⟩) (by first | exact Va_ HO0_0.out (by have := of_eq_true p268; have := of_eq_true q268; omega) (by first | decide | exact Nat.succ_pos _) (fun _ hk => hk.2) | (rw [add_block]; exact Va_ HO0_0.out (by have := of_eq_true p268; have := of_eq_true q268; omega) (by first | decide | exact Nat.succ_pos _) (fun _ hk => hk.2)) | (show (Addr.add _ _).block ≠ _; rw [add_block]; exact Va_ HO0_0.out (by have := of_eq_true p268; have := of_eq_true q268; omega) (by first | decide | exact Nat.succ_pos _) (fun _ hk => hk.2)) | (dsimp only; exact Va_ HO0_0.out (by have := of_eq_true p268; have := of_eq_true q268; omega) (by first | decide | exact Nat.succ_pos _) (fun _ hk => hk.2))) _).trans (((cell_far (p := ⟨gb264, _, none⟩) (by first | exact Va_ HO0_0.out (by have := of_eq_true p268; have := of_eq_true q268; omega) (by first | decide | exact Nat.succ_pos _) (fun _ hk => hk.2) | (rw [add_block]; exact Va_ HO0_0.out (by have := of_eq_true p268; have := of_eq_true q268; omega) (by first | decide | exact Nat.succ_pos _) (fun _ hk => hk.2)) | (show (Addr.add _ _).block ≠ _; rw [add_block]; exact Va_ HO0_0.out (by have := of_eq_true p268; have := of_eq_true q268; omega) (by first | decide | exact Nat.succ_pos _) (fun _ hk => hk.2)) | (dsimp only; exact Va_ HO0_0.out (by have := of_eq_true p268; have := of_eq_true q268; omega) (by first | decide | exact Nat.succ_pos _) (fun _ hk => hk.2))) _).trans (((cell_far (p := ⟨gb264, _, none⟩) (by first | exact Va_ HO0_0.out (by have := of_eq_true p268; have := of_eq_true q268; omega) (by first | decide | exact Nat.succ_pos _) (fun _ hk => hk.2) | (rw [add_block]; exact Va_ HO0_0.out (by have := of_eq_true p268; have := of_eq_true q268; omega) (by first | decide | exact Nat.succ_pos _) (fun _ hk => hk.2)) | (show (Addr.add _ _).block ≠ _; rw [add_block]; exact Va_ HO0_0.out (by have := of_eq_true p268; have := of_eq_true q268; omega) (by first | decide | exact Nat.succ_pos _) (fun _ hk => hk.2)) | (dsimp only; exact Va_ HO0_0.out (by have := of_eq_true p268; have := of_eq_true q268; omega) (by first | decide | exact Nat.succ_pos _) (fun _ hk => hk.2))) _).trans (((cell_far (p := ⟨gb264, _, none⟩) (by first | exact Va_ HO0_0.out (by have := of_eq_true p268; have := of_eq_true q268; omega) (by first | decide | exact Nat.succ_pos _) (fun _ hk => hk.2) | (rw [add_block]; exact Va_ HO0_0.out (by have := of_eq_true p268; have := of_eq_true q268; omega) (by first | decide | exact Nat.succ_pos _) (fun _ hk => hk.2)) | (show (Addr.add _ _).block ≠ _; rw [add_block]; exact Va_ HO0_0.out (by have := of_eq_true p268; have := of_eq_true q268; omega) (by first | decide | exact Nat.succ_pos _) (fun _ hk => hk.2)) | (dsimp only; exact Va_ HO0_0.out (by have := of_eq_true p268; have := of_eq_true q268; omega) (by first | decide | exact Nat.succ_pos _) (fun _ hk => hk.2))) _).trans (hHeld.2.2.2.2.2.2.2.2.1)))))))))))), ((cell_far (p := ⟨gb264, _, none⟩) (by first | exact Va_ HO0_0.out (by have := of_eq_true p268; have := of_eq_true q268; omega) (by first | decide | exact Nat.succ_pos _) (fun _ hk => hk.2) | (rw [add_block]; exact Va_ HO0_0.out (by have := of_eq_true p268; have := of_eq_true q268; omega) (by first | decide | exact Nat.succ_pos _) (fun _ hk => hk.2)) | (show (Addr.add _ _).block ≠ _; rw [add_block]; exact Va_ HO0_0.out (by have := of_eq_true p268; have := of_eq_true q268; omega) (by first | decide | exact Nat.succ_pos _) (fun _ hk => hk.2)) | (dsimp only; exact Va_ HO0_0.out (by have := of_eq_true p268; have := of_eq_true q268; omega) (by first | decide | exact Nat.succ_pos _) (fun _ hk => hk.2))) _).trans (((cell_far (p := ⟨gb264, _, none⟩) (by first | exact Va_ HO0_0.out (by have := of_eq_true p268; have := of_eq_true q268; omega) (by first | decide | exact Nat.succ_pos _) (fun _ hk => hk.2) | (rw [add_block]; exact Va_ HO0_0.out (by have := of_eq_true p268; have := of_eq_true q268; omega) (by first | decide | exact Nat.succ_pos _) (fun _ hk => hk.2)) | (show (Addr.add _ _).block ≠ _; rw [add_block]; exact Va_ HO0_0.out (by have := of_eq_true p268; have := of_eq_true q268; omega) (by first | decide | exact Nat.succ_pos _) (fun _ hk => hk.2)) | (dsimp only; exact Va_ HO0_0.out (by have := of_eq_true p268; have := of_eq_true q268; omega) (by first | decide | exact Nat.succ_pos _) (fun _ hk => hk.2))) _).trans (((cell_far (p := ⟨gb264, _, none⟩) (by first | exact Va_ HO0_0.out (by have := of_eq_true p268; have := of_eq_true q268; omega) (by first | decide | exact Nat.succ_pos _) (fun _ hk => hk.2) | (rw [add_block]; exact Va_ HO0_0.out (by have := of_eq_true p268; have := of_eq_true q268; omega) (by first | decide | exact Nat.succ_pos _) (fun _ hk => hk.2)) | (show (Addr.add _ _).block ≠ _; rw [add_block]; exact Va_ HO0_0.out (by have := of_eq_true p268; have := of_eq_true q268; omega) (by first | decide | exact Nat.succ_pos _) (fun _ hk => hk.2)) | (dsimp only; exact Va_ HO0_0.out (by have := of_eq_true p268; have := of_eq_true q268; omega) (by first | decide | exact Nat.succ_pos _) (fun _ hk => hk.2))) _).trans (((cell_far (p := ⟨gb264, _, none⟩) (by first | exact Va_ HO0_0.out (by have := of_eq_true p268; have := of_eq_true q268; omega) (by first | decide | exact Nat.succ_pos _) (fun _ hk => hk.2) | (rw [add_block]; exact Va_ HO0_0.out (by have := of_eq_true p268; have := of_eq_true q268; omega) (by first | decide | exact Nat.succ_pos _) (fun _ hk => hk.2)) | (show (Addr.add _ _).block ≠ _; rw [add_block]; exact Va_ HO0_0.out (by have := of_eq_true p268; have := of_eq_true q268; omega) (by first | decide | exact Nat.succ_pos _) (fun _ hk => hk.2)) | (dsimp only; exact Va_ HO0_0.out (by have := of_eq_true p268; have := of_eq_true q268; omega) (by first | decide | exact Nat.succ_pos _) (fun _ hk => hk.2))) _).trans (((cell_far (p := ⟨gb264, _, none⟩) (by first | exact Va_ HO0_0.out (by have := of_eq_true p268; have := of_eq_true q268; omega) (by first | decide | exact Nat.succ_pos _) (fun _ hk => hk.2) | (rw [add_block]; exact Va_ HO0_0.out (by have := of_eq_true p268; have := of_eq_true q268; omega) (by first | decide | exact Nat.succ_pos _) (fun _ hk => hk.2)) | (show (Addr.add _ _).block ≠ _; rw [add_block]; exact Va_ HO0_0.out (by have := of_eq_true p268; have := of_eq_true q268; omega) (by first | decide | exact Nat.succ_pos _) (fun _ hk => hk.2)) | (dsimp only; exact Va_ HO0_0.out (by have := of_eq_true p268; have := of_eq_true q268; omega) (by first | decide | exact Nat.succ_pos _) (fun _ hk => hk.2))) _).trans (((cell_far (p := ⟨gb264, _, none⟩) (by first | exact Va_ HO0_0.out (by have := of_eq_true p268; have := of_eq_true q268; omega) (by first | decide | exact Nat.succ_pos _) (fun _ hk => hk.2) | (rw [add_block]; exact Va_ HO0_0.out (by have := of_eq_true p268; have := of_eq_true q268; omega) (by first | decide | exact Nat.succ_pos _) (fun _ hk => hk.2)) | (show (Addr.add _ _).block ≠ _; rw [add_block]; exact Va_ HO0_0.out (by have := of_eq_true p268; have := of_eq_true q268; omega) (by first | decide | exact Nat.succ_pos _) (fun _ hk => hk.2)) | (dsimp only; exact Va_ HO0_0.out (by have := of_eq_true p268; have := of_eq_true q268; omega) (by first | decide | exact Nat.succ_pos _) (fun _ hk => hk.2))) _).trans (hHeld.2.2.2.2.2.2.2.2.2.1)))))))))))), ((cell_far (p := ⟨gb264, _, none⟩) (by first | exact Va_ HO0_0.out (by have := of_eq_true p268; have := of_eq_true q268; omega) (by first | decide | exact Nat.succ_pos _) (fun _ hk => hk.2) | (rw [add_block]; exact Va_ HO0_0.out (by have := of_eq_true p268; have := of_eq_true q268; omega) (by first | decide | exact Nat.succ_pos _) (fun _ hk => hk.2)) | (show (Addr.add _ _).block ≠ _; rw [add_block]; exact Va_ HO0_0.out (by have := of_eq_true p268; have := of_eq_true q268; omega) (by first | decide | exact Nat.succ_pos _) (fun _ hk => hk.2)) | (dsimp only; exact Va_ HO0_0.out (by have := of_eq_true p268; have := of_eq_true q268; omega) (by first | decide | exact Nat.succ_pos _) (fun _ hk => hk.2))) _).trans (((cell_far (p := ⟨gb264, _, none⟩) (by first | exact Va_ HO0_0.out (by have := of_eq_true p268; have := of_eq_true q268; omega) (by first | decide | exact Nat.succ_pos _) (fun _ hk => hk.2) | (rw [add_block]; exact Va_ HO0_0.out (by have := of_eq_true p268; have := of_eq_true q268; omega) (by first | decide | exact Nat.succ_pos _) (fun _ hk => hk.2)) | (show (Addr.add _ _).block ≠ _; rw [add_block]; exact Va_ HO0_0.out (by have := of_eq_true p268; have := of_eq_true q268; omega) (by first | decide | exact Nat.succ_pos _) (fun _ hk => hk.2)) | (dsimp only; exact Va_ HO0_0.out (by have := of_eq_true p268; have := of_eq_true q268; omega) (by first | decide | exact Nat.succ_pos _) (fun _ hk => hk.2))) _).trans (((cell_far (p := ⟨gb264, _, none⟩) (by first | exact Va_ HO0_0.out (by have := of_eq_true p268; have := of_eq_true q268; omega) (by first | decide | exact Nat.succ_pos _) (fun _ hk => hk.2) | (rw [add_block]; exact Va_ HO0_0.out (by have := of_eq_true p268; have := of_eq_true q268; omega) (by first | decide | exact Nat.succ_pos _) (fun _ hk => hk.2)) | (show (Addr.add _ _).block ≠ _; rw [add_block]; exact Va_ HO0_0.out (by have := of_eq_true p268; have := of_eq_true q268; omega) (by first | decide | exact Nat.succ_pos _) (fun _ hk => hk.2)) | (dsimp only; exact Va_ HO0_0.out (by have := of_eq_true p268; have := of_eq_true q268; omega) (by first | decide | exact Nat.succ_pos _) (fun _ hk => hk.2))) _).trans (((cell_far (p := ⟨gb264, _, none⟩) (by first | exact Va_ HO0_0.out (by have := of_eq_true p268; have := of_eq_true q268; omega) (by first | decide | exact Nat.succ_pos _) (fun _ hk => hk.2) | (rw [add_block]; exact Va_ HO0_0.out (by have := of_eq_true p268; have := of_eq_true q268; omega) (by first | decide | exact Nat.succ_pos _) (fun _ hk => hk.2)) | (show (Addr.add _ _).block ≠ _; rw [add_block]; exact Va_ HO0_0.out (by have := of_eq_true p268; have := of_eq_true q268; omega) (by first | decide | exact Nat.succ_pos _) (fun _ hk => hk.2)) | (dsimp only; exact Va_ HO0_0.out (by have := of_eq_true p268; have := of_eq_true q268; omega) (by first | decide | exact Nat.succ_pos _) (fun _ hk => hk.2))) _).trans (((cell_far (p := ⟨gb264, _, none⟩) (by first | exact Va_ HO0_0.out (by have := of_eq_true p268; have := of_eq_true q268; omega) (by first | decide | exact Nat.succ_pos _) (fun _ hk => hk.2) | (rw [add_block]; exact Va_ HO0_0.out (by have := of_eq_true p268; have := of_eq_true q268; omega) (by first | decide | exact Nat.succ_pos _) (fun _ hk => hk.2)) | (show (Addr.add _ _).block ≠ _; rw [add_block]; exact Va_ HO0_0.out (by have := of_eq_true p268; have := of_eq_true q268; omega) (by first | decide | exact Nat.succ_pos _) (fun _ hk => hk.2)) | (dsimp only; exact Va_ HO0_0.out (by have := of_eq_true p268; have := of_eq_true q268; omega) (by first | decide | exact Nat.succ_pos _) (fun _ hk => hk.2))) _).trans (((cell_far (p := ⟨gb264, _, none⟩) (by first | exact Va_ HO0_0.out (by have := of_eq_true p268; have := of_eq_true q268; omega) (by first | decide | exact Nat.succ_pos _) (fun _ hk => hk.2) | (rw [add_block]; exact Va_ HO0_0.out (by have := of_eq_true p268; have := of_eq_true q268; omega) (by first | decide | exact Nat.succ_pos _) (fun _ hk => hk.2)) | (show (Addr.add _ _).block ≠ _; rw [add_block]; exact Va_ HO0_0.out (by have := of_eq_true p268; have := of_eq_true q268; omega) (by first | decide | exact Nat.succ_pos _) (fun _ hk => hk.2)) | (dsimp only; exact Va_ HO0_0.out (by have := of_eq_true p268; have := of_eq_true q268; omega) (by first | decide | exact Nat.succ_pos _) (fun _ hk => hk.2))) _).trans (hHeld.2.2.2.2.2.2.2.2.2.2.1)))))))))))), ((cell_far (p := ⟨gb264, _, none⟩) (by first | exact Va_ HO0_0.out (by have := of_eq_true p268; have := of_eq_true q268; omega) (by first | decide | exact Nat.succ_pos _) (fun _ hk => hk.2) | (rw [add_block]; exact Va_ HO0_0.out (by have := of_eq_true p268; have := of_eq_true q268; omega) (by first | decide | exact Nat.succ_pos _) (fun _ hk => hk.2)) | (show (Addr.add _ _).block ≠ _; rw [add_block]; exact Va_ HO0_0.out (by have := of_eq_true p268; have := of_eq_true q268; omega) (by first | decide | exact Nat.succ_pos _) (fun _ hk => hk.2)) | (dsimp only; exact Va_ HO0_0.out (by have := of_eq_true p268; have := of_eq_true q268; omega) (by first | decide | exact Nat.succ_pos _) (fun _ hk => hk.2))) _).trans (((cell_far (p := ⟨gb264, _, none⟩) (by first | exact Va_ HO0_0.out (by have := of_eq_true p268; have := of_eq_true q268; omega) (by first | decide | exact Nat.succ_pos _) (fun _ hk => hk.2) | (rw [add_block]; exact Va_ HO0_0.out (by have := of_eq_true p268; have := of_eq_true q268; omega) (by first | decide | exact Nat.succ_pos _) (fun _ hk => hk.2)) | (show (Addr.add _ _).block ≠ _; rw [add_block]; exact Va_ HO0_0.out (by have := of_eq_true p268; have := of_eq_true q268; omega) (by first | decide | exact Nat.succ_pos _) (fun _ hk => hk.2)) | (dsimp only; exact Va_ HO0_0.out (by have := of_eq_true p268; have := of_eq_true q268; omega) (by first | decide | exact Nat.succ_pos _) (fun _ hk => hk.2))) _).trans (((cell_far (p := ⟨gb264, _, none⟩) (by first | exact Va_ HO0_0.out (by have := of_eq_true p268; have := of_eq_true q268; omega) (by first | decide | exact Nat.succ_pos _) (fun _ hk => hk.2) | (rw [add_block]; exact Va_ HO0_0.out (by have := of_eq_true p268; have := of_eq_true q268; omega) (by first | decide | exact Nat.succ_pos _) (fun _ hk => hk.2)) | (show (Addr.add _ _).block ≠ _; rw [add_block]; exact Va_ HO0_0.out (by have := of_eq_true p268; have := of_eq_true q268; omega) (by first | decide | exact Nat.succ_pos _) (fun _ hk => hk.2)) | (dsimp only; exact Va_ HO0_0.out (by have := of_eq_true p268; have := of_eq_true q268; omega) (by first | decide | exact Nat.succ_pos _) (fun _ hk => hk.2))) _).trans (((cell_far (p := ⟨gb264, _, none⟩) (by first | exact Va_ HO0_0.out (by have := of_eq_true p268; have := of_eq_true q268; omega) (by first | decide | exact Nat.succ_pos _) (fun _ hk => hk.2) | (rw [add_block]; exact Va_ HO0_0.out (by have := of_eq_true p268; have := of_eq_true q268; omega) (by first | decide | exact Nat.succ_pos _) (fun _ hk => hk.2)) | (show (Addr.add _ _).block ≠ _; rw [add_block]; exact Va_ HO0_0.out (by have := of_eq_true p268; have := of_eq_true q268; omega) (by first | decide | exact Nat.succ_pos _) (fun _ hk => hk.2)) | (dsimp only; exact Va_ HO0_0.out (by have := of_eq_true p268; have := of_eq_true q268; omega) (by first | decide | exact Nat.succ_pos _) (fun _ hk => hk.2))) _).trans (((cell_far (p := ⟨gb264, _, none⟩) (by first | exact Va_ HO0_0.out (by have := of_eq_true p268; have := of_eq_true q268; omega) (by first | decide | exact Nat.succ_pos _) (fun _ hk => hk.2) | (rw [add_block]; exact Va_ HO0_0.out (by have := of_eq_true p268; have := of_eq_true q268; omega) (by first | decide | exact Nat.succ_pos _) (fun _ hk => hk.2)) | (show (Addr.add _ _).block ≠ _; rw [add_block]; exact Va_ HO0_0.out (by have := of_eq_true p268; have := of_eq_true q268; omega) (by first | decide | exact Nat.succ_pos _) (fun _ hk => hk.2)) | (dsimp only; exact Va_ HO0_0.out (by have := of_eq_true p268; have := of_eq_true q268; omega) (by first | decide | exact Nat.succ_pos _) (fun _ hk => hk.2))) _).trans (((cell_far (p := ⟨gb264, _, none⟩) (by first | exact Va_ HO0_0.out (by have := of_eq_true p268; have := of_eq_true q268; omega) (by first | decide | exact Nat.succ_pos _) (fun _ hk => hk.2) | (rw [add_block]; exact Va_ HO0_0.out (by have := of_eq_true p268; have := of_eq_true q268; omega) (by first | decide | exact Nat.succ_pos _) (fun _ hk => hk.2)) | (show (Addr.add _ _).block ≠ _; rw [add_block]; exact Va_ HO0_0.out (by have := of_eq_true p268; have := of_eq_true q268; omega) (by first | decide | exact Nat.succ_pos _) (fun _ hk => hk.2)) | (dsimp only; exact Va_ HO0_0.out (by have := of_eq_true p268; have := of_eq_true q268; omega) (by first | decide | exact Nat.succ_pos _) (fun _ hk => hk.2))) _).trans (hHeld.2.2.2.2.2.2.2.2.2.2.2.1)))))))))))), ((cell_far (p := ⟨gb264, _, none⟩) (by first | exact Va_ HO0_0.out (by have := of_eq_true p268; have := of_eq_true q268; omega) (by first | decide | exact Nat.succ_pos _) (fun _ hk => hk.2) | (rw [add_block]; exact Va_ HO0_0.out (by have := of_eq_true p268; have := of_eq_true q268; omega) (by first | decide | exact Nat.succ_pos _) (fun _ hk => hk.2)) | (show (Addr.add _ _).block ≠ _; rw [add_block]; exact Va_ HO0_0.out (by have := of_eq_true p268; have := of_eq_true q268; omega) (by first | decide | exact Nat.succ_pos _) (fun _ hk => hk.2)) | (dsimp only; exact Va_ HO0_0.out (by have := of_eq_true p268; have := of_eq_true q268; omega) (by first | decide | exact Nat.succ_pos _) (fun _ hk => hk.2))) _).trans (((cell_far (p := ⟨gb264, _, none⟩) (by first | exact Va_ HO0_0.out (by have := of_eq_true p268; have := of_eq_true q268; omega) (by first | decide | exact Nat.succ_pos _) (fun _ hk => hk.2) | (rw [add_block]; exact Va_ HO0_0.out (by have := of_eq_true p268; have := of_eq_true q268; omega) (by first | decide | exact Nat.succ_pos _) (fun _ hk => hk.2)) | (show (Addr.add _ _).block ≠ _; rw [add_block]; exact Va_ HO0_0.out (by have := of_eq_true p268; have := of_eq_true q268; omega) (by first | decide | exact Nat.succ_pos _) (fun _ hk => hk.2)) | (dsimp only; exact Va_ HO0_0.out (by have := of_eq_true p268; have := of_eq_true q268; omega) (by first | decide | exact Nat.succ_pos _) (fun _ hk => hk.2))) _).trans (((cell_far (p := ⟨gb264, _, none⟩) (by first | exact Va_ HO0_0.out (by have := of_eq_true p268; have := of_eq_true q268; omega) (by first | decide | exact Nat.succ_pos _) (fun _ hk => hk.2) | (rw [add_block]; exact Va_ HO0_0.out (by have := of_eq_true p268; have := of_eq_true q268; omega) (by first | decide | exact Nat.succ_pos _) (fun _ hk => hk.2)) | (show (Addr.add _ _).block ≠ _; rw [add_block]; exact Va_ HO0_0.out (by have := of_eq_true p268; have := of_eq_true q268; omega) (by first | decide | exact Nat.succ_pos _) (fun _ hk => hk.2)) | (dsimp only; exact Va_ HO0_0.out (by have := of_eq_true p268; have := of_eq_true q268; omega) (by first | decide | exact Nat.succ_pos _) (fun _ hk => hk.2))) _).trans (((cell_far (p := ⟨gb264, _, none⟩) (by first | exact Va_ HO0_0.out (by have := of_eq_true p268; have := of_eq_true q268; omega) (by first | decide | exact Nat.succ_pos _) (fun _ hk => hk.2) | (rw [add_block]; exact Va_ HO0_0.out (by have := of_eq_true p268; have := of_eq_true q268; omega) (by first | decide | exact Nat.succ_pos _) (fun _ hk => hk.2)) | (show (Addr.add _ _).block ≠ _; rw [add_block]; exact Va_ HO0_0.out (by have := of_eq_true p268; have := of_eq_true q268; omega) (by first | decide | exact Nat.succ_pos _) (fun _ hk => hk.2)) | (dsimp only; exact Va_ HO0_0.out (by have := of_eq_true p268; have := of_eq_true q268; omega) (by first | decide | exact Nat.succ_pos _) (fun _ hk => hk.2))) _).trans (((cell_far (p := ⟨gb264, _, none⟩) (by first | exact Va_ HO0_0.out (by have := of_eq_true p268; have := of_eq_true q268; omega) (by first | decide | exact Nat.succ_pos _) (fun _ hk => hk.2) | (rw [add_block]; exact Va_ HO0_0.out (by have := of_eq_true p268; have := of_eq_true q268; omega) (by first | decide | exact Nat.succ_pos _) (fun _ hk => hk.2)) | (show (Addr.add _ _).block ≠ _; rw [add_block]; exact Va_ HO0_0.out (by have := of_eq_true p268; have := of_eq_true q268; omega) (by first | decide | exact Nat.succ_pos _) (fun _ hk => hk.2)) | (dsimp only; exact Va_ HO0_0.out (by have := of_eq_true p268; have := of_eq_true q268; omega) (by first | decide | exact Nat.succ_pos _) (fun _ hk => hk.2))) _).trans (((cell_far (p := ⟨gb264, _, none⟩) (by first | exact Va_ HO0_0.out (by have := of_eq_true p268; have := of_eq_true q268; omega) (by first | decide | exact Nat.succ_pos _) (fun _ hk => hk.2) | (rw [add_block]; exact Va_ HO0_0.out (by have := of_eq_true p268; have := of_eq_true q268; omega) (by first | decide | exact Nat.succ_pos _) (fun _ hk => hk.2)) | (show (Addr.add _ _).block ≠ _; rw [add_block]; exact Va_ HO0_0.out (by have := of_eq_true p268; have := of_eq_true q268; omega) (by first | decide | exact Nat.succ_pos _) (fun _ hk => hk.2)) | (dsimp only; exact Va_ HO0_0.out (by have := of_eq_true p268; have := of_eq_true q268; omega) (by first | decide | exact Nat.succ_pos _) (fun _ hk => hk.2))) _).trans (hHeld.2.2.2.2.2.2.2.2.2.2.2.2.1)))))))))))), ((cell_far (p := ⟨gb264, _, none⟩) (by first | exact Va_ HO0_0.out (by have := of_eq_true p268; have := of_eq_true q268; omega) (by first | decide | exact Nat.succ_pos _) (fun _ hk => hk.2) | (rw [add_block]; exact Va_ HO0_0.out (by have := of_eq_true p268; have := of_eq_true q268; omega) (by first | decide | exact Nat.succ_pos _) (fun _ hk => hk.2)) | (show (Addr.add _ _).block ≠ _; rw [add_block]; exact Va_ HO0_0.out (by have := of_eq_true p268; have := of_eq_true q268; omega) (by first | decide | exact Nat.succ_pos _) (fun _ hk => hk.2)) | (dsimp only; exact Va_ HO0_0.out (by have := of_eq_true p268; have := of_eq_true q268; omega) (by first | decide | exact Nat.succ_pos _) (fun _ hk => hk.2))) _).trans (((cell_far (p := ⟨gb264, _, none⟩) (by first | exact Va_ HO0_0.out (by have := of_eq_true p268; have := of_eq_true q268; omega) (by first | decide | exact Nat.succ_pos _) (fun _ hk => hk.2) | (rw [add_block]; exact Va_ HO0_0.out (by have := of_eq_true p268; have := of_eq_true q268; omega) (by first | decide | exact Nat.succ_pos _) (fun _ hk => hk.2)) | (show (Addr.add _ _).block ≠ _; rw [add_block]; exact Va_ HO0_0.out (by have := of_eq_true p268; have := of_eq_true q268; omega) (by first | decide | exact Nat.succ_pos _) (fun _ hk => hk.2)) | (dsimp only; exact Va_ HO0_0.out (by have := of_eq_true p268; have := of_eq_true q268; omega) (by first | decide | exact Nat.succ_pos _) (fun _ hk => hk.2))) _).trans (((cell_far (p := ⟨gb264, _, none⟩) (by first | exact Va_ HO0_0.out (by have := of_eq_true p268; have := of_eq_true q268; omega) (by first | decide | exact Nat.succ_pos _) (fun _ hk => hk.2) | (rw [add_block]; exact Va_ HO0_0.out (by have := of_eq_true p268; have := of_eq_true q268; omega) (by first | decide | exact Nat.succ_pos _) (fun _ hk => hk.2)) | (show (Addr.add _ _).block ≠ _; rw [add_block]; exact Va_ HO0_0.out (by have := of_eq_true p268; have := of_eq_true q268; omega) (by first | decide | exact Nat.succ_pos _) (fun _ hk => hk.2)) | (dsimp only; exact Va_ HO0_0.out (by have := of_eq_true p268; have := of_eq_true q268; omega) (by first | decide | exact Nat.succ_pos _) (fun _ hk => hk.2))) _).trans (((cell_far (p := ⟨gb264, _, none⟩) (by first | exact Va_ HO0_0.out (by have := of_eq_true p268; have := of_eq_true q268; omega) (by first | decide | exact Nat.succ_pos _) (fun _ hk => hk.2) | (rw [add_block]; exact Va_ HO0_0.out (by have := of_eq_true p268; have := of_eq_true q268; omega) (by first | decide | exact Nat.succ_pos _) (fun _ hk => hk.2)) | (show (Addr.add _ _).block ≠ _; rw [add_block]; exact Va_ HO0_0.out (by have := of_eq_true p268; have := of_eq_true q268; omega) (by first | decide | exact Nat.succ_pos _) (fun _ hk => hk.2)) | (dsimp only; exact Va_ HO0_0.out (by have := of_eq_true p268; have := of_eq_true q268; omega) (by first | decide | exact Nat.succ_pos _) (fun _ hk => hk.2))) _).trans (((cell_far (p := ⟨gb264, _, none⟩) (by first | exact Va_ HO0_0.out (by have := of_eq_true p268; have := of_eq_true q268; omega) (by first | decide | exact Nat.succ_pos _) (fun _ hk => hk.2) | (rw [add_block]; exact Va_ HO0_0.out (by have := of_eq_true p268; have := of_eq_true q268; omega) (by first | decide | exact Nat.succ_pos _) (fun _ hk => hk.2)) | (show (Addr.add _ _).block ≠ _; rw [add_block]; exact Va_ HO0_0.out (by have := of_eq_true p268; have := of_eq_true q268; omega) (by first | decide | exact Nat.succ_pos _) (fun _ hk => hk.2)) | (dsimp only; exact Va_ HO0_0.out (by have := of_eq_true p268; have := of_eq_true q268; omega) (by first | decide | exact Nat.succ_pos _) (fun _ hk => hk.2))) _).trans (((cell_far (p := ⟨gb264, _, none⟩) (by first | exact Va_ HO0_0.out (by have := of_eq_true p268; have := of_eq_true q268; omega) (by first | decide | exact Nat.succ_pos _) (fun _ hk => hk.2) | (rw [add_block]; exact Va_ HO0_0.out (by have := of_eq_true p268; have := of_eq_true q268; omega) (by first | decide | exact Nat.succ_pos _) (fun _ hk => hk.2)) | (show (Addr.add _ _).block ≠ _; rw [add_block]; exact Va_ HO0_0.out (by have := of_eq_true p268; have := of_eq_true q268; omega) (by first | decide | exact Nat.succ_pos _) (fun _ hk => hk.2)) | (dsimp only; exact Va_ HO0_0.out (by have := of_eq_true p268; have := of_eq_true q268; omega) (by first | decide | exact Nat.succ_pos _) (fun _ hk => hk.2))) _).trans (hHeld.2.2.2.2.2.2.2.2.2.2.2.2.2))))))))))))⟩ (fun hHeld => ?_)
              clear hK K
              refine pure_ (i := 13) (N := some 5) (v := ?_) (a' := ?_) #[true, true, true, true, true, true, true, true, true, true, true, true, true, true] rfl rfl (any_of HT_.out (by kernel_rfl)) (fun _ _ _ h => h) (Or.inl ⟨by rfl, ?_⟩) ?_ ?_
              rotate_left
              · intro w'
                go_simp
                with_reducible rfl
              rotate_left
              · simp only [Act.put, List.setIfInBounds_toArray, List.set_cons_zero, List.set_cons_succ, i64_w, i32_w]
                rfl
              refine done_ (done_of HT_.out (by kernel_rfl)) ?_
              try go_wp2
              refine bodyPost_ret (results_ct rfl _ _ gb264 77 #[.int .i64 ((rd_T77 l0_0 (rd l1_0 (ji11))).f0), .int .i64 ((rd_T77 l0_0 (rd l1_0 (ji11))).f1), .string ((rd_T77 l0_0 (rd l1_0 (ji11))).f2), .string ((rd_T77 l0_0 (rd l1_0 (ji11))).f3), .string ((rd_T77 l0_0 (rd l1_0 (ji11))).f4), .slice A268_5 ((rd_T77 l0_0 (rd l1_0 (ji11))).f5).length c268_5] (0, 0) _ rfl (by (with_reducible repeat (first | refine blk_drewN ?_ _ | refine blk_drew ?_ | refine blk_alloc ?_ _)); refine blk_put (cs := #[.int .i64 ((rd_T77 l0_0 (rd l1_0 (ji11))).f0), .int .i64 ((rd_T77 l0_0 (rd l1_0 (ji11))).f1), .string ((rd_T77 l0_0 (rd l1_0 (ji11))).f2), .string ((rd_T77 l0_0 (rd l1_0 (ji11))).f3), .string ((rd_T77 l0_0 (rd l1_0 (ji11))).f4), .slice none 0 0]) ?_ 5 _ rfl; (with_reducible repeat (first | refine blk_drewN ?_ _ | refine blk_drew ?_ | refine blk_alloc ?_ _)); refine blk_put (cs := #[.int .i64 ((rd_T77 l0_0 (rd l1_0 (ji11))).f0), .int .i64 ((rd_T77 l0_0 (rd l1_0 (ji11))).f1), .string ((rd_T77 l0_0 (rd l1_0 (ji11))).f2), .string ((rd_T77 l0_0 (rd l1_0 (ji11))).f3), .string (⟨#[]⟩ : ByteArray), .slice none 0 0]) ?_ 4 _ rfl; (with_reducible repeat (first | refine blk_drewN ?_ _ | refine blk_drew ?_ | refine blk_alloc ?_ _)); refine blk_put (cs := #[.int .i64 ((rd_T77 l0_0 (rd l1_0 (ji11))).f0), .int .i64 ((rd_T77 l0_0 (rd l1_0 (ji11))).f1), .string ((rd_T77 l0_0 (rd l1_0 (ji11))).f2), .string (⟨#[]⟩ : ByteArray), .string (⟨#[]⟩ : ByteArray), .slice none 0 0]) ?_ 3 _ rfl; (with_reducible repeat (first | refine blk_drewN ?_ _ | refine blk_drew ?_ | refine blk_alloc ?_ _)); refine blk_put (cs := #[.int .i64 ((rd_T77 l0_0 (rd l1_0 (ji11))).f0), .int .i64 ((rd_T77 l0_0 (rd l1_0 (ji11))).f1), .string (⟨#[]⟩ : ByteArray), .string (⟨#[]⟩ : ByteArray), .string (⟨#[]⟩ : ByteArray), .slice none 0 0]) ?_ 2 _ rfl; (with_reducible repeat (first | refine blk_drewN ?_ _ | refine blk_drew ?_ | refine blk_alloc ?_ _)); refine blk_put (cs := #[.int .i64 ((rd_T77 l0_0 (rd l1_0 (ji11))).f0), .int .i64 0, .string (⟨#[]⟩ : ByteArray), .string (⟨#[]⟩ : ByteArray), .string (⟨#[]⟩ : ByteArray), .slice none 0 0]) ?_ 1 _ rfl; (with_reducible repeat (first | refine blk_drewN ?_ _ | refine blk_drew ?_ | refine blk_alloc ?_ _)); refine blk_put (cs := #[.int .i64 0, .int .i64 0, .string (⟨#[]⟩ : ByteArray), .string (⟨#[]⟩ : ByteArray), .string (⟨#[]⟩ : ByteArray), .slice none 0 0]) ?_ 0 _ rfl; (with_reducible repeat (first | refine blk_drewN ?_ _ | refine blk_drew ?_ | refine blk_alloc ?_ _)); exact BK264.out) Try.underlying77 rfl (by kernel_rfl)) rfl ?_
              exact ⟨_, by first | rfl | (simp [errW_none, errW_some] <;> rfl) | (simp only [← hji11]; first | rfl | (simp [errW_none, errW_some] <;> rfl)) | (simp [*, errW_none, errW_some] <;> rfl), by (with_reducible repeat (first | apply Kd.V_alloc | apply Kd.V_drewN | apply Kd.V_drew)); exact Kd.V_mono (Kd.V_far (p := ⟨gb264, 5, none⟩) (Kd.V_far (p := ⟨gb264, 4, none⟩) (Kd.V_far (p := ⟨gb264, 3, none⟩) (Kd.V_far (p := ⟨gb264, 2, none⟩) (Kd.V_far (p := ⟨gb264, 1, none⟩) (Kd.V_far (p := ⟨gb264, 0, none⟩) (Kd.V_mono HL268_5.out (fun k_ hk => (⟨hk, hk.2⟩ : _ ∧ k_ ≠ gb264))) (fun _ hk => hk.2) (.int .i64 ((rd_T77 l0_0 (rd l1_0 (ji11))).f0))) (fun _ hk => hk.2) (.int .i64 ((rd_T77 l0_0 (rd l1_0 (ji11))).f1))) (fun _ hk => hk.2) (.string ((rd_T77 l0_0 (rd l1_0 (ji11))).f2))) (fun _ hk => hk.2) (.string ((rd_T77 l0_0 (rd l1_0 (ji11))).f3))) (fun _ hk => hk.2) (.string ((rd_T77 l0_0 (rd l1_0 (ji11))).f4))) (fun _ hk => hk.2) (.slice A268_5 ((rd_T77 l0_0 (rd l1_0 (ji11))).f5).length c268_5)) (fun _ hk => hk.1.1.1.1), Hf_ HB⟩
            · rw [if_neg c17] at H
              exact absurd H (by simp)
          · rw [if_neg c16] at H
            exact absurd H (by simp)
        · replace c15 := Bool.eq_false_iff.mpr c15
          subst c15
          have H1 : (some (0, 0, (⟨#[]⟩ : ByteArray), (⟨#[]⟩ : ByteArray), (⟨#[]⟩ : ByteArray), ([] : List Int), false)) = some (r1, r2, r3, r4, r5, r6, r7) := by rw [if_neg (show ¬ (false = true) by decide)] at H; exact H
          clear H
          have H := H1
          clear H1
          simp only [Option.some.injEq, Prod.mk.injEq] at H
          obtain ⟨rfl, rfl, rfl, rfl, rfl, rfl, rfl⟩ := H
          go_enter Try.func61, Try.ntmps61
          try go_wp2_with (first | ((with_reducible refine gate_dst (N := 2) rfl ?_); (try (refine gate_guard (by rfl) ?_; dsimp only)); refine box_event ?hg (N := 2) ?hd (cs := #[.slice A0_0 l0_0.length c0_0, .slice A0_1 l0_1.length c0_1, .slice A0_2 l0_2.length c0_2]) (t := 40) ?hr ?_; (case hd => rfl); (case hg => rfl); (case hr => first | (go_simp; done) | (go_simp; rfl)); intro gb262 hg w30 hbox hb; have BK262 := Aside0.mk (hbox); have GW262 := Hg_ HB hg; have GE262 := GW262; replace HO0_0 := Aside0.mk (Kd.V_below (Kd.V_elderB (by (with_reducible repeat (first | apply Kd.V_alloc | apply Kd.V_drewN | apply Kd.V_drew)); exact HO0_0.out) gb262 (Nat.le_of_eq hg.symm)) hb); replace HB := Hs_ HB hb; clear hb hbox hg) | ((with_reducible refine gate_dst (N := 3) rfl ?_); (try (refine gate_guard (by rfl) ?_; dsimp only)); refine box_event ?hg (N := 3) ?hd (cs := #[.slice A1_0 l1_0.length c1_0, .slice A1_1 l1_1.length c1_1, .slice A1_2 l1_2.length c1_2, .int .i64 a1_3]) (t := 44) ?hr ?_; (case hd => rfl); (case hg => rfl); (case hr => first | (go_simp; done) | (go_simp; rfl)); intro gb263 hg w31 hbox hb; have BK263 := Aside0.mk (hbox); have GW263 := Hg_ HB hg; have GE263 := GW263; have NB262_263 := Bl_ BK262 hg; have NB263_262 := Bm_ NB262_263; replace HO0_0 := Aside0.mk (Kd.V_below (Kd.V_elderB (by (with_reducible repeat (first | apply Kd.V_alloc | apply Kd.V_drewN | apply Kd.V_drew)); exact HO0_0.out) gb263 (Nat.le_of_eq hg.symm)) hb); replace BK262 := Bb_ BK262 hb; replace HB := Hs_ HB hb; clear hb hbox hg) | ((with_reducible refine gate_dst (N := 4) rfl ?_); (try (refine gate_guard (by rfl) ?_; dsimp only)); refine box_event ?hg (N := 4) ?hd (cs := #[.int .i64 0, .int .i64 0, .string (⟨#[]⟩ : ByteArray), .string (⟨#[]⟩ : ByteArray), .string (⟨#[]⟩ : ByteArray), .slice none 0 0]) (t := 77) ?hr ?_; (case hd => rfl); (case hg => rfl); (case hr => first | (go_simp; done) | (go_simp; rfl)); intro gb264 hg w32 hbox hb; have BK264 := Aside0.mk (hbox); have GW264 := Hg_ HB hg; have GE264 := GW264; have NB262_264 := Bl_ BK262 hg; have NB264_262 := Bm_ NB262_264; have NB263_264 := Bl_ BK263 hg; have NB264_263 := Bm_ NB263_264; replace HO0_0 := Aside0.mk (Kd.V_below (Kd.V_elderB (by (with_reducible repeat (first | apply Kd.V_alloc | apply Kd.V_drewN | apply Kd.V_drew)); exact HO0_0.out) gb264 (Nat.le_of_eq hg.symm)) hb); replace BK262 := Bb_ BK262 hb; replace BK263 := Bb_ BK263 hb; replace HB := Hs_ HB hb; clear hb hbox hg))
          have n0_ := Aside0.mk (Kd.V_drew HO0_0.out)
          have n1_ := Aside0.mk (blk_drew BK262.out)
          have n2_ := Aside0.mk (blk_drew BK263.out)
          have n3_ := Aside0.mk (blk_drew BK264.out)
          have n4_ := Aside0.mk (below_drew1 HB.out)
          clear HO0_0
          clear BK262
          clear BK263
          clear BK264
          clear HB
          have HO0_0 := n0_
          have BK262 := n1_
          have BK263 := n2_
          have BK264 := n3_
          have HB := n4_
          clear n0_ n1_ n2_ n3_ n4_
          have p265 : 0 ≤ ((ji11) : Int) := of_decide_eq_true As_
          have q265 : (ji11) < (l1_0.length : Int) := of_decide_eq_true As_
          obtain ⟨ad265, e265, hx265_0⟩ := Kd.at_int HR1_0.out (ji11) p265 q265
          have hw265_0 := hx265_0
          cases e265
          replace hx265_0 := (HB.out.cell (World.block_lt_of_cell? w _ hx265_0)).trans hx265_0
          replace p265 := eq_true p265
          replace q265 := eq_true q265
          refine start_ (n := 17) (S := fun w' => w'.cell? ⟨gb263, 0, none⟩ = some (.slice (some ad265) l1_0.length c1_0) ∧ w'.cell? ⟨gb263, 1, none⟩ = some (.slice A1_1 l1_1.length c1_1) ∧ w'.cell? ⟨gb263, 2, none⟩ = some (.slice A1_2 l1_2.length c1_2) ∧ w'.cell? ⟨gb263, 3, none⟩ = some (.int .i64 a1_3) ∧ w'.cell? ⟨gb262, 0, none⟩ = some (.slice A0_0 l0_0.length c0_0) ∧ w'.cell? ⟨gb262, 1, none⟩ = some (.slice A0_1 l0_1.length c0_1) ∧ w'.cell? ⟨gb262, 2, none⟩ = some (.slice A0_2 l0_2.length c0_2) ∧ w'.cell? (ad265.add ((ji11)).toNat) = some (.int .i64 (rd l1_0 (ji11)))) (ds := []) #[false, false, false, false, false, false, false, false, false, false, false, false, false, false, false, false, false] (by kernel_rfl) rfl rfl ⟨(blk_cell BK263.out 0).trans rfl, (blk_cell BK263.out 1).trans rfl, (blk_cell BK263.out 2).trans rfl, (blk_cell BK263.out 3).trans rfl, (blk_cell BK262.out 0).trans rfl, (blk_cell BK262.out 1).trans rfl, (blk_cell BK262.out 2).trans rfl, ((HB.out.cell (World.block_lt_of_cell? w _ hw265_0)).trans hw265_0)⟩ (fun hHeld => ?_); refine with_tabW impl_comesNext.tab1 impl_comesNext.bits1 (fun HT_ HW_ => ?_)
          generalize w32.drew = w33 at HO0_0 BK262 BK263 BK264 HB hx265_0 hHeld ⊢
          refine pure_ (i := 0) (N := some 6) (v := ?_) (a' := ?_) #[true, false, false, false, false, false, false, false, false, false, false, false, false, false, false, false, false] rfl rfl (any_of HT_.out (by kernel_rfl)) (fun _ _ _ h => h) (Or.inl ⟨by rfl, ?_⟩) ?_ ?_
          rotate_left
          · intro w'
            go_simp
            with_reducible rfl
          rotate_left
          · simp only [Act.put, List.setIfInBounds_toArray, List.set_cons_zero, List.set_cons_succ, i64_w, i32_w]
            rfl
          refine take_ (i := 1) (N := some 7) (v := ?_) (a' := ?_) #[true, true, false, false, false, false, false, false, false, false, false, false, false, false, false, false, false] rfl rfl (take_ofW HT_.out HW_.out (by kernel_rfl)) (fun _ _ _ h => h) (Or.inl ⟨by rfl, ?_⟩) hHeld ?_ ?_
          rotate_left
          · rintro w' ⟨s0, s1, s2, s3, s4, s5, s6, s7⟩
            go_simp
            with_reducible rfl
          rotate_left
          · simp only [Act.put, List.setIfInBounds_toArray, List.set_cons_zero, List.set_cons_succ, i64_w, i32_w]
            rfl
          refine pure_ (i := 2) (N := some 8) (v := ?_) (a' := ?_) #[true, true, true, false, false, false, false, false, false, false, false, false, false, false, false, false, false] rfl rfl (any_of HT_.out (by kernel_rfl)) (fun _ _ _ h => h) (Or.inl ⟨by rfl, ?_⟩) ?_ ?_
          rotate_left
          · intro w'
            go_simp
            with_reducible rfl
          rotate_left
          · simp only [Act.put, List.setIfInBounds_toArray, List.set_cons_zero, List.set_cons_succ, i64_w, i32_w]
            rfl
          refine pure_ (i := 3) (N := some 9) (v := ?_) (a' := ?_) #[true, true, true, true, false, false, false, false, false, false, false, false, false, false, false, false, false] rfl rfl (any_of HT_.out (by kernel_rfl)) (fun _ _ _ h => h) (Or.inl ⟨by rfl, ?_⟩) ?_ ?_
          rotate_left
          · intro w'
            go_simp
            with_reducible rfl
          rotate_left
          · simp only [Act.put, List.setIfInBounds_toArray, List.set_cons_zero, List.set_cons_succ, i64_w, i32_w]
            rfl
          refine pure_ (i := 4) (N := some 10) (v := ?_) (a' := ?_) #[true, true, true, true, true, false, false, false, false, false, false, false, false, false, false, false, false] rfl rfl (any_of HT_.out (by kernel_rfl)) (fun _ _ _ h => h) (Or.inl ⟨by rfl, ?_⟩) ?_ ?_
          rotate_left
          · intro w'
            go_simp
            with_reducible rfl
          rotate_left
          · simp only [Act.put, List.setIfInBounds_toArray, List.set_cons_zero, List.set_cons_succ, i64_w, i32_w]
            rfl
          refine pure_ (i := 6) (N := some 12) (v := ?_) (a' := ?_) #[true, true, true, true, true, false, true, false, false, false, false, false, false, false, false, false, false] rfl rfl (any_of HT_.out (by kernel_rfl)) (fun _ _ _ h => h) (Or.inl ⟨by rfl, ?_⟩) ?_ ?_
          rotate_left
          · intro w'
            go_simp
            with_reducible rfl
          rotate_left
          · simp only [Act.put, List.setIfInBounds_toArray, List.set_cons_zero, List.set_cons_succ, i64_w, i32_w]
            rfl
          refine pure_ (i := 8) (N := some 14) (v := ?_) (a' := ?_) #[true, true, true, true, true, false, true, false, true, false, false, false, false, false, false, false, false] rfl rfl (any_of HT_.out (by kernel_rfl)) (fun _ _ _ h => h) (Or.inl ⟨by rfl, ?_⟩) ?_ ?_
          rotate_left
          · intro w'
            go_simp
            with_reducible rfl
          rotate_left
          · simp only [Act.put, List.setIfInBounds_toArray, List.set_cons_zero, List.set_cons_succ, i64_w, i32_w]
            rfl
          refine take_ (i := 5) (N := some 11) (v := ?_) (a' := ?_) #[true, true, true, true, true, true, true, false, true, false, false, false, false, false, false, false, false] rfl rfl (take_ofW HT_.out HW_.out (by kernel_rfl)) (fun _ _ _ h => h) (Or.inl ⟨by rfl, ?_⟩) hHeld ?_ ?_
          rotate_left
          · rintro w' ⟨s0, s1, s2, s3, s4, s5, s6, s7⟩
            go_simp
            with_reducible rfl
          rotate_left
          · simp only [Act.put, List.setIfInBounds_toArray, List.set_cons_zero, List.set_cons_succ, i64_w, i32_w]
            rfl
          refine take_ (i := 7) (N := some 13) (v := ?_) (a' := ?_) #[true, true, true, true, true, true, true, true, true, false, false, false, false, false, false, false, false] rfl rfl (take_ofW HT_.out HW_.out (by kernel_rfl)) (fun _ _ _ h => h) (Or.inl ⟨by rfl, ?_⟩) hHeld ?_ ?_
          rotate_left
          · rintro w' ⟨s0, s1, s2, s3, s4, s5, s6, s7⟩
            go_simp
            with_reducible rfl
          rotate_left
          · simp only [Act.put, List.setIfInBounds_toArray, List.set_cons_zero, List.set_cons_succ, i64_w, i32_w]
            rfl
          refine take_ (i := 9) (N := some 15) (v := ?_) (a' := ?_) #[true, true, true, true, true, true, true, true, true, true, false, false, false, false, false, false, false] rfl rfl (take_ofW HT_.out HW_.out (by kernel_rfl)) (fun _ _ _ h => h) (Or.inl ⟨by rfl, ?_⟩) hHeld ?_ ?_
          rotate_left
          · rintro w' ⟨s0, s1, s2, s3, s4, s5, s6, s7⟩
            go_simp
            with_reducible rfl
          rotate_left
          · simp only [Act.put, List.setIfInBounds_toArray, List.set_cons_zero, List.set_cons_succ, i64_w, i32_w]
            rfl
          refine pure_ (i := 10) (N := some 16) (v := ?_) (a' := ?_) #[true, true, true, true, true, true, true, true, true, true, true, false, false, false, false, false, false] rfl rfl (any_of HT_.out (by kernel_rfl)) (fun _ _ _ h => h) (Or.inl ⟨by rfl, ?_⟩) ?_ ?_
          rotate_left
          · intro w'
            go_simp
            with_reducible rfl
          rotate_left
          · simp only [Act.put, List.setIfInBounds_toArray, List.set_cons_zero, List.set_cons_succ, i64_w, i32_w]
            rfl
          refine pure_ (i := 11) (N := some 17) (v := ?_) (a' := ?_) #[true, true, true, true, true, true, true, true, true, true, true, true, false, false, false, false, false] rfl rfl (any_of HT_.out (by kernel_rfl)) (fun _ _ _ h => h) (Or.inl ⟨by rfl, ?_⟩) ?_ ?_
          rotate_left
          · intro w'
            go_simp
            with_reducible rfl
          rotate_left
          · simp only [Act.put, List.setIfInBounds_toArray, List.set_cons_zero, List.set_cons_succ, i64_w, i32_w]
            rfl
          refine pure_ (i := 12) (N := some 18) (v := ?_) (a' := ?_) #[true, true, true, true, true, true, true, true, true, true, true, true, true, false, false, false, false] rfl rfl (any_of HT_.out (by kernel_rfl)) (fun _ _ _ h => h) (Or.inl ⟨by rfl, ?_⟩) ?_ ?_
          rotate_left
          · intro w'
            go_simp
            with_reducible rfl
          rotate_left
          · simp only [Act.put, List.setIfInBounds_toArray, List.set_cons_zero, List.set_cons_succ, i64_w, i32_w]
            rfl
          refine take_ (i := 13) (N := some 19) (v := ?_) (a' := ?_) #[true, true, true, true, true, true, true, true, true, true, true, true, true, true, false, false, false] rfl rfl (take_ofW HT_.out HW_.out (by kernel_rfl)) (fun _ _ _ h => h) (Or.inl ⟨by rfl, ?_⟩) hHeld ?_ ?_
          rotate_left
          · rintro w' ⟨s0, s1, s2, s3, s4, s5, s6, s7⟩
            go_simp
            with_reducible rfl
          rotate_left
          · simp only [Act.put, List.setIfInBounds_toArray, List.set_cons_zero, List.set_cons_succ, i64_w, i32_w]
            rfl
          refine one_ (i := 14) (N := some 20) #[true, true, true, true, true, true, true, true, true, true, true, true, true, true, true, false, false] rfl rfl (one_of HT_.out (by kernel_rfl)) (by decide) (fun K hK => ?_)
          refine goes_ Try.func78 (by kernel_rfl) rfl #[.agg #[.slice A0_0 l0_0.length c0_0, .slice A0_1 l0_1.length c0_1, .slice A0_2 l0_2.length c0_2], .int .i64 (rd l1_0 (ji11))] (by rfl) rfl rfl (by (try simp only [List.map_toArray, List.map_cons, List.map_nil]); first | done | (simp only [hji11]; rfl) | rfl | (simp only [List.length_drop, List.length_take]; rfl)) ?_
          with_reducible refine (impl_isNode.calls _ _ l0_0 _ _ l0_1 _ _ l0_2 (rd l1_0 (ji11)) false _ ?side1 ?side2 ?side3 ?side4 ?side5 ?side6 A14.out).mono ?_
          (case side1 => repeat (first | exact (Kd.V_reads' HO0_0.out).2.2 | (with_reducible refine Kd.C_alloc ?_ _) | (with_reducible refine Kd.C_drewN ?_ _) | (with_reducible refine Kd.C_drew ?_)))
          (case side2 => exact (Kd.V_reads' HO0_0.out).2.1)
          (case side3 => exact Sc_ HR0_1 HB)
          (case side4 => exact HC0_1.out)
          (case side5 => exact Sc_ HR0_2 HB)
          (case side6 => exact HC0_2.out)
          rintro e w34 ⟨rfl, hb⟩
          refine ⟨_, rfl, ?_⟩
          have n0_ := Aside0.mk (Kd.V_below (by (with_reducible repeat (first | apply Kd.V_alloc | apply Kd.V_drewN | apply Kd.V_drew)); exact HO0_0.out) hb)
          have n1_ := Bb_ BK262 hb
          have n2_ := Bb_ BK263 hb
          have n3_ := Bb_ BK264 hb
          have n4_ := Hs_ HB hb
          clear HO0_0
          clear BK262
          clear BK263
          clear BK264
          clear HB
          have HO0_0 := n0_
          have BK262 := n1_
          have BK263 := n2_
          have BK264 := n3_
          have HB := n4_
          clear n0_ n1_ n2_ n3_ n4_
          (try clear hb)
          (try clear hb2)
          (try clear hk)
          (try clear hi)
          refine hK.out _ _ ⟨(blk_cell BK263.out 0).trans rfl, (blk_cell BK263.out 1).trans rfl, (blk_cell BK263.out 2).trans rfl, (blk_cell BK263.out 3).trans rfl, (blk_cell BK262.out 0).trans rfl, (blk_cell BK262.out 1).trans rfl, (blk_cell BK262.out 2).trans rfl, ((HB.out.cell (World.block_lt_of_cell? w _ hw265_0)).trans hw265_0)⟩ (fun hHeld => ?_)
          clear hK K
          refine norm_ (a' := ?_) ?_ ?_
          rotate_left
          · show Act.put _ (some 20) _ = _
            simp only [Act.put, List.setIfInBounds_toArray, List.set_cons_zero, List.set_cons_succ, i64_w, i32_w]
            rfl
          refine pure_ (i := 15) (N := some 21) (v := ?_) (a' := ?_) #[true, true, true, true, true, true, true, true, true, true, true, true, true, true, true, true, false] rfl rfl (any_of HT_.out (by kernel_rfl)) (fun _ _ _ h => h) (Or.inl ⟨by rfl, ?_⟩) ?_ ?_
          rotate_left
          · intro w'
            go_simp
            with_reducible rfl
          rotate_left
          · simp only [Act.put, List.setIfInBounds_toArray, List.set_cons_zero, List.set_cons_succ, i64_w, i32_w]
            rfl
          refine pure_ (i := 16) (N := some 22) (v := ?_) (a' := ?_) #[true, true, true, true, true, true, true, true, true, true, true, true, true, true, true, true, true] rfl rfl (any_of HT_.out (by kernel_rfl)) (fun _ _ _ h => h) (Or.inl ⟨by rfl, ?_⟩) ?_ ?_
          rotate_left
          · intro w'
            go_simp
            with_reducible rfl
          rotate_left
          · simp only [Act.put, List.setIfInBounds_toArray, List.set_cons_zero, List.set_cons_succ, i64_w, i32_w]
            rfl
          refine done_ (done_of HT_.out (by kernel_rfl)) ?_
          have hnb35 := NB264_262.out
          have hnc35 := NB262_264.out
          have hnb36 := NB264_263.out
          have hnc36 := NB263_264.out
          obtain ⟨hcz37_0, hcz37_1, hcz37_2, hcz37_3, hcz37_4, hcz37_5, hfz37_0, hfz37_1, hfz37_2, hfz37_3, hfz37_4, hfz37_5⟩ := Bc6_ BK264
          try go_wp2
          refine bodyPost_ret (results_ct rfl _ _ gb264 77 #[.int .i64 0, .int .i64 0, .string (⟨#[]⟩ : ByteArray), .string (⟨#[]⟩ : ByteArray), .string (⟨#[]⟩ : ByteArray), .slice none 0 0] (0, 0) _ rfl (by (with_reducible repeat (first | refine blk_drewN ?_ _ | refine blk_drew ?_ | refine blk_alloc ?_ _)); refine blk_put (cs := #[.int .i64 0, .int .i64 0, .string (⟨#[]⟩ : ByteArray), .string (⟨#[]⟩ : ByteArray), .string (⟨#[]⟩ : ByteArray), .slice none 0 0]) ?_ 5 _ rfl; (with_reducible repeat (first | refine blk_drewN ?_ _ | refine blk_drew ?_ | refine blk_alloc ?_ _)); refine blk_put (cs := #[.int .i64 0, .int .i64 0, .string (⟨#[]⟩ : ByteArray), .string (⟨#[]⟩ : ByteArray), .string (⟨#[]⟩ : ByteArray), .slice none 0 0]) ?_ 4 _ rfl; (with_reducible repeat (first | refine blk_drewN ?_ _ | refine blk_drew ?_ | refine blk_alloc ?_ _)); refine blk_put (cs := #[.int .i64 0, .int .i64 0, .string (⟨#[]⟩ : ByteArray), .string (⟨#[]⟩ : ByteArray), .string (⟨#[]⟩ : ByteArray), .slice none 0 0]) ?_ 3 _ rfl; (with_reducible repeat (first | refine blk_drewN ?_ _ | refine blk_drew ?_ | refine blk_alloc ?_ _)); refine blk_put (cs := #[.int .i64 0, .int .i64 0, .string (⟨#[]⟩ : ByteArray), .string (⟨#[]⟩ : ByteArray), .string (⟨#[]⟩ : ByteArray), .slice none 0 0]) ?_ 2 _ rfl; (with_reducible repeat (first | refine blk_drewN ?_ _ | refine blk_drew ?_ | refine blk_alloc ?_ _)); refine blk_put (cs := #[.int .i64 0, .int .i64 0, .string (⟨#[]⟩ : ByteArray), .string (⟨#[]⟩ : ByteArray), .string (⟨#[]⟩ : ByteArray), .slice none 0 0]) ?_ 1 _ rfl; (with_reducible repeat (first | refine blk_drewN ?_ _ | refine blk_drew ?_ | refine blk_alloc ?_ _)); refine blk_put (cs := #[.int .i64 0, .int .i64 0, .string (⟨#[]⟩ : ByteArray), .string (⟨#[]⟩ : ByteArray), .string (⟨#[]⟩ : ByteArray), .slice none 0 0]) ?_ 0 _ rfl; (with_reducible repeat (first | refine blk_drewN ?_ _ | refine blk_drew ?_ | refine blk_alloc ?_ _)); exact BK264.out) Try.underlying77 rfl (by kernel_rfl)) rfl ?_
          exact ⟨_, by first | rfl | (simp [errW_none, errW_some] <;> rfl) | (simp only [← hji11]; first | rfl | (simp [errW_none, errW_some] <;> rfl)) | (simp [*, errW_none, errW_some] <;> rfl), Kd.V_nil _ _ _ _ _, Hf_ HB⟩
      · rw [if_neg c13] at H
        exact absurd H (by simp)
    · rw [if_neg c12] at H
      exact absurd H (by simp)

end Go.Proofs.Ytmbkcbgbienjoaa.PFnExactStateOf
