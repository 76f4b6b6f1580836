/- The machine side of the law FnEnvs: for each function that it reaches, a Lean function and its contract. Written by a program of this session's over the kit's print. No condition. -/
import Derived.Test.YtegeahiflkjhmaaCmp
import Derived.Test.YtegeahiflkjhmaaPFnEnvsx0
import Derived.Test.YtegeahiflkjhmaaPFnEnvsx4
import Derived.Test.YtegeahiflkjhmaaPFnEnvsx7
import Derived.Test.YtegeahiflkjhmaaPFnEnvsx8
namespace Go.Proofs.Ytegeahiflkjhmaa.PFnEnvs
open Go.RowKit Go.Proofs.YtegeahiflkjhmaaW.PrintWords Go.Proofs.YtegeahiflkjhmaaW.PrintLast Go.Proofs.YtegeahiflkjhmaaW.PrintMore Go.Proofs.Ytegeahiflkjhmaa.Cmp
attribute [local go_sem] max2_int min2_int max_two min_two max_three min_three max_four min_four   -- for this text's walks alone
set_option linter.unusedVariables false
set_option linter.unusedSimpArgs false

/-! ### spec_l10Any: function 86 -/
def spec_l10Any.f (k : Nat) (s0_0 : List Int) (s0_1 : Int) (s0_2 : Int) : Option (List ByteArray × List Int × Int × Int) := (spec_l01Below.f s0_0 s0_1 s0_2 10).bind fun bt312 => ((spec_l10Env.f k s0_0 bt312.2.1 bt312.2.2).bind fun bt315 => ((spec_l10Copy.f bt315.1 bt315.2.1).bind fun bt323 => (if bt312.1 = 0 then ((spec_l03Val.f s0_0 bt315.2.2.1 bt315.2.2.2).bind fun bt330 => (if 0 < (bt323.2.length : Int) then (some (bt323.1, (bt323.2.set (0 : Int).toNat bt330.1), bt330.2.1, bt330.2.2)) else (none))) else (if bt312.1 = 1 then (if bt323.1.length < 8796093022208 then (some ((bt323.1 ++ [(⟨#[118]⟩ : ByteArray)]), bt323.2, bt315.2.2.1, bt315.2.2.2)) else (none)) else (if bt312.1 = 2 then ((spec_l01Pick.f s0_0 bt315.2.2.1 bt315.2.2.2 (([(⟨#[]⟩ : ByteArray), (⟨#[98, 101, 103, 105, 110]⟩ : ByteArray), (⟨#[110]⟩ : ByteArray)] : List ByteArray))).bind fun bt340 => (if 0 < (bt323.1.length : Int) then (some ((bt323.1.set (0 : Int).toNat bt340.1), bt323.2, bt340.2.1, bt340.2.2)) else (none))) else (some (bt323.1, bt323.2, bt315.2.2.1, bt315.2.2.2)))))))
theorem spec_l10Any.mono : ∀ a0 a1 a2 k, LeO (spec_l10Any.f k a0 a1 a2) (spec_l10Any.f (k + 1) a0 a1 a2) := by
 intro a0 a1 a2 k
 unfold spec_l10Any.f
 repeat' first
   | (with_reducible exact spec_l10Env.mono _ _ _ _)
   | (with_reducible exact LeO.refl _)
   | (with_reducible exact LeO.none _)
   | (with_reducible refine LeO.ite ?_ ?_)
   | (with_reducible refine LeO.bind ?_ (fun _ => ?_))
   | exact spec_l10Env.mono _ _ _ _
   | exact LeO.none _
   | refine LeO.ite ?_ ?_
   | refine LeO.bind ?_ (fun _ => ?_)
set_option maxHeartbeats 8000000 in
set_option maxRecDepth 100000 in
theorem spec_l10Any.calls (k : Nat) (g : Nat) (s0_0 : List Int) (s0_1 : Int) (s0_2 : Int) (r1 : List ByteArray) (r2 : List Int) (r3 : Int) (r4 : Int) (w0 w : World) (hI : IsS145 w0 w g s0_0 s0_1 s0_2) (hB : Below w0.heap.size w0 w) (h : spec_l10Any.f k s0_0 s0_1 s0_2 = some (r1, r2, r3, r4)) :
  Calls Try.prog 86 #[.pointer (some ⟨g, 0, none⟩)] w fun e w' => ∃ v0_ v1_ : Value, e = .returned (.agg #[v0_, v1_]) ∧ Kd.R Kd.string 9 w' w.heap.size (fun _ => True) v0_ r1 ∧ Kd.R (Kd.int .i64) 3 w' w.heap.size (fun _ => True) v1_ r2 ∧ IsS145 w0 w' g s0_0 r3 r4 ∧ Below w0.heap.size w0 w' ∧ KeepBut w w' g none := by
 have hu28 := Try.underlying28
 have HI0 := Aside0.mk hI
 have HK := Aside0.mk (KeepBut.refl w g none)
 have HL := Aside0.mk hB.size
 clear hI
 have HW0 := Aside0.mk hB.size
 have HB := Aside0.mk hB
 clear hB
 have H : ((spec_l01Below.f s0_0 s0_1 s0_2 10).bind fun bt312 => ((spec_l10Env.f k s0_0 bt312.2.1 bt312.2.2).bind fun bt315 => ((spec_l10Copy.f bt315.1 bt315.2.1).bind fun bt323 => (if bt312.1 = 0 then ((spec_l03Val.f s0_0 bt315.2.2.1 bt315.2.2.2).bind fun bt330 => (if 0 < (bt323.2.length : Int) then (some (bt323.1, (bt323.2.set (0 : Int).toNat bt330.1), bt330.2.1, bt330.2.2)) else (none))) else (if bt312.1 = 1 then (if bt323.1.length < 8796093022208 then (some ((bt323.1 ++ [(⟨#[118]⟩ : ByteArray)]), bt323.2, bt315.2.2.1, bt315.2.2.2)) else (none)) else (if bt312.1 = 2 then ((spec_l01Pick.f s0_0 bt315.2.2.1 bt315.2.2.2 (([(⟨#[]⟩ : ByteArray), (⟨#[98, 101, 103, 105, 110]⟩ : ByteArray), (⟨#[110]⟩ : ByteArray)] : List ByteArray))).bind fun bt340 => (if 0 < (bt323.1.length : Int) then (some ((bt323.1.set (0 : Int).toNat bt340.1), bt323.2, bt340.2.1, bt340.2.2)) else (none))) else (some (bt323.1, bt323.2, bt315.2.2.1, bt315.2.2.2)))))))) = some (r1, r2, r3, r4) := h
 clear h
 replace H := Option.bind_eq_some_iff.mp H
 obtain ⟨⟨t312, t313, t314⟩, A20, H⟩ := H
 replace H : ((spec_l10Env.f k s0_0 t313 t314).bind fun bt315 => ((spec_l10Copy.f bt315.1 bt315.2.1).bind fun bt323 => (if t312 = 0 then ((spec_l03Val.f s0_0 bt315.2.2.1 bt315.2.2.2).bind fun bt330 => (if 0 < (bt323.2.length : Int) then (some (bt323.1, (bt323.2.set (0 : Int).toNat bt330.1), bt330.2.1, bt330.2.2)) else (none))) else (if t312 = 1 then (if bt323.1.length < 8796093022208 then (some ((bt323.1 ++ [(⟨#[118]⟩ : ByteArray)]), bt323.2, bt315.2.2.1, bt315.2.2.2)) else (none)) else (if t312 = 2 then ((spec_l01Pick.f s0_0 bt315.2.2.1 bt315.2.2.2 (([(⟨#[]⟩ : ByteArray), (⟨#[98, 101, 103, 105, 110]⟩ : ByteArray), (⟨#[110]⟩ : ByteArray)] : List ByteArray))).bind fun bt340 => (if 0 < (bt323.1.length : Int) then (some ((bt323.1.set (0 : Int).toNat bt340.1), bt323.2, bt340.2.1, bt340.2.2)) else (none))) else (some (bt323.1, bt323.2, bt315.2.2.1, bt315.2.2.2))))))) = some (r1, r2, r3, r4) := H
 have A2 := Aside0.mk A20
 clear A20
 replace H := Option.bind_eq_some_iff.mp H
 obtain ⟨⟨t315, t318, t321, t322⟩, A30, H⟩ := H
 replace H : ((spec_l10Copy.f t315 t318).bind fun bt323 => (if t312 = 0 then ((spec_l03Val.f s0_0 t321 t322).bind fun bt330 => (if 0 < (bt323.2.length : Int) then (some (bt323.1, (bt323.2.set (0 : Int).toNat bt330.1), bt330.2.1, bt330.2.2)) else (none))) else (if t312 = 1 then (if bt323.1.length < 8796093022208 then (some ((bt323.1 ++ [(⟨#[118]⟩ : ByteArray)]), bt323.2, t321, t322)) else (none)) else (if t312 = 2 then ((spec_l01Pick.f s0_0 t321 t322 (([(⟨#[]⟩ : ByteArray), (⟨#[98, 101, 103, 105, 110]⟩ : ByteArray), (⟨#[110]⟩ : ByteArray)] : List ByteArray))).bind fun bt340 => (if 0 < (bt323.1.length : Int) then (some ((bt323.1.set (0 : Int).toNat bt340.1), bt323.2, bt340.2.1, bt340.2.2)) else (none))) else (some (bt323.1, bt323.2, t321, t322)))))) = some (r1, r2, r3, r4) := H
 have A3 := Aside0.mk A30
 clear A30
 replace H := Option.bind_eq_some_iff.mp H
 obtain ⟨⟨t323, t326⟩, A40, H⟩ := H
 replace H : (if t312 = 0 then ((spec_l03Val.f s0_0 t321 t322).bind fun bt330 => (if 0 < (t326.length : Int) then (some (t323, (t326.set (0 : Int).toNat bt330.1), bt330.2.1, bt330.2.2)) else (none))) else (if t312 = 1 then (if t323.length < 8796093022208 then (some ((t323 ++ [(⟨#[118]⟩ : ByteArray)]), t326, t321, t322)) else (none)) else (if t312 = 2 then ((spec_l01Pick.f s0_0 t321 t322 (([(⟨#[]⟩ : ByteArray), (⟨#[98, 101, 103, 105, 110]⟩ : ByteArray), (⟨#[110]⟩ : ByteArray)] : List ByteArray))).bind fun bt340 => (if 0 < (t323.length : Int) then (some ((t323.set (0 : Int).toNat bt340.1), t326, bt340.2.1, bt340.2.2)) else (none))) else (some (t323, t326, t321, t322))))) = some (r1, r2, r3, r4) := H
 have A4 := Aside0.mk A40
 clear A40
 by_cases c5 : t312 = 0
 ·rw [if_pos c5] at H
  have c5b0 : (t312 == 0) = true := beq_iff_eq.mpr c5
  have c5b1 : (t312 != 0) = false := bne_eq_false_iff_eq.mpr c5
  clear c5
  replace H := Option.bind_eq_some_iff.mp H
  obtain ⟨⟨t330, t331, t332⟩, A60, H⟩ := H
  replace H : (if 0 < (t326.length : Int) then (some (t323, (t326.set (0 : Int).toNat t330), t331, t332)) else (none)) = some (r1, r2, r3, r4) := H
  have A6 := Aside0.mk A60
  clear A60
  by_cases c7 : 0 < (t326.length : Int)
  ·rw [if_pos c7] at H
   have c7b0 : decide (0 < (t326.length : Int)) = true := decide_eq_true c7
   have c7b1 : decide (0 < t326.length) = true := decide_eq_true (by omega)
   clear c7
   obtain ⟨y333, hy333⟩ : ∃ y_ : List Int, y_ = (t326.set (0 : Int).toNat t330) := ⟨_, rfl⟩
   replace H : (some (t323, y333, t331, t332)) = some (r1, r2, r3, r4) := by first | (rw [hy333]; with_reducible exact H) | (have H2_ := (Option.bind_some _ _).symm.trans H; rw [hy333]; with_reducible exact H2_) | (have H2_ := (Option.bind_some _ _).symm.trans H; with_reducible exact H2_) | with_reducible exact H | (rw [hy333]; exact H) | exact H
   have Ny333 := Aside0.mk hy333
   clear hy333
   simp only [Option.some.injEq, Prod.mk.injEq] at H
   obtain ⟨rfl, rfl, rfl, rfl⟩ := H
   go_enter Try.func86, Try.ntmps86
   try go_wp2_with (first | ((with_reducible refine gate_dst (N := 2) rfl ?_); refine box_event ?hg (N := 2) ?hd (cs := #[.slice none 0 0, .slice none 0 0]) (t := 28) ?hr ?_; (case hd => rfl); (case hg => rfl); (case hr => first | (go_simp; done) | (go_simp; rfl)); intro gb311 hg w9 hbox hb; have n0_ := Aside0.mk (IsS145.below (by repeat (first | (with_reducible first | exact HI0.out | apply IsS145.alloc | apply IsS145.drewN | apply IsS145.drew | apply IsS145.set_1 | apply IsS145.set_2 | refine IsS145.far ?_ (Aside0.out (by with_reducible assumption)) _) | exact HI0.out)) hb); have n1_ := Aside0.mk (KeepBut.trans (by repeat (first | (with_reducible first | exact HK.out | apply KeepBut.set_ | apply keep_drewN | apply keep_drew | apply keep_alloc) | exact HK.out)) (KeepBut.of_below hb g none) (.inl rfl)); have n2_ := Aside0.mk (below_step (by repeat (first | (with_reducible first | exact HB.out | apply below_alloc | apply pw_below_drewN | apply below_drew1 | refine below_set ?_ (IsS145.ge HI0.out)) | exact HB.out)) hb); have n3_ := Aside0.mk (hbox); have n4_ := Aside0.mk ((by rw [hg]; exact (keep_size (w := w) (g := g) (row := none) (by repeat (first | (with_reducible first | exact HK.out | apply KeepBut.set_ | apply keep_drewN | apply keep_drew | apply keep_alloc) | exact HK.out))) : w.heap.size ≤ gb311)); have n5_ := Aside0.mk ((Nat.le_trans HW0.out (by rw [hg]; exact (keep_size (w := w) (g := g) (row := none) (by repeat (first | (with_reducible first | exact HK.out | apply KeepBut.set_ | apply keep_drewN | apply keep_drew | apply keep_alloc) | exact HK.out))) : w.heap.size ≤ gb311) : w0.heap.size ≤ gb311)); have n6_ := Aside0.mk ((by rw [hg]; exact Nat.ne_of_lt (IsS145.lt (show IsS145 w0 _ g s0_0 s0_1 s0_2 from by repeat (first | (with_reducible first | exact HI0.out | apply IsS145.alloc | apply IsS145.drewN | apply IsS145.drew | apply IsS145.set_1 | apply IsS145.set_2 | refine IsS145.far ?_ (Aside0.out (by with_reducible assumption)) _) | exact HI0.out))) : g ≠ gb311)); have n7_ := Aside0.mk ((by rw [hg]; exact Nat.ne_of_gt (IsS145.lt (show IsS145 w0 _ g s0_0 s0_1 s0_2 from by repeat (first | (with_reducible first | exact HI0.out | apply IsS145.alloc | apply IsS145.drewN | apply IsS145.drew | apply IsS145.set_1 | apply IsS145.set_2 | refine IsS145.far ?_ (Aside0.out (by with_reducible assumption)) _) | exact HI0.out))) : gb311 ≠ g)); clear HI0; clear HK; clear HB; have HI0 := n0_; have HK := n1_; have HB := n2_; have BK311 := n3_; have GW311 := n4_; have GE311 := n5_; have NB0_311 := n6_; have NB311_0 := n7_; clear n0_ n1_ n2_ n3_ n4_ n5_ n6_ n7_; clear hb hbox hg) | ((with_reducible refine gate_callee (f := 85) rfl ?_); refine goesL_ (some 6) rfl rfl Try.func85 (by kernel_rfl) rfl #[.pointer (some ⟨g, 0, none⟩), .int .i64 10] rfl Mp_ ?_; (with_reducible refine (spec_l01Below.calls g s0_0 s0_1 s0_2 10 t312 t313 t314 w0 _ ?side1 ?side2 A2.out).mono ?_); (case side1 => repeat (first | (with_reducible first | exact HI0.out | apply IsS145.alloc | apply IsS145.drewN | apply IsS145.drew | apply IsS145.set_1 | apply IsS145.set_2 | refine IsS145.far ?_ (Aside0.out (by with_reducible assumption)) _ | refine IsS145.far ?_ NB0_311.out _) | exact HI0.out)); (case side2 => repeat (first | (with_reducible first | exact HB.out | apply below_alloc | apply pw_below_drewN | apply below_drew1 | refine below_set ?_ (IsS145.ge HI0.out) | refine below_set ?_ GE311.out) | exact HB.out)); rintro e w10 ⟨rfl, hi, hb, hk⟩; refine ⟨_, rfl, ?_⟩; replace BK311 := Aside0.mk (KeepBut.blk hk (g' := gb311) (o := .cells #[.slice none 0 0, .slice none 0 0] 28 (0, 0)) (Bq_ BK311) NB311_0.out (by simp)); replace HK := Aside0.mk (KeepBut.trans (by repeat (first | (with_reducible first | exact HK.out | apply KeepBut.set_ | apply keep_drewN | apply keep_drew | apply keep_alloc | refine keep_far ?_ GW311.out _) | exact HK.out)) hk (.inl rfl)); replace HI0 := Aside0.mk (hi); replace HB := Aside0.mk (hb); (try clear hb); (try clear hb2); (try clear hk); (try clear hi)) | ((with_reducible refine gate_callee (f := 82) rfl ?_); refine goesL_ (some 8) rfl rfl Try.func82 (by kernel_rfl) rfl #[.pointer (some ⟨g, 0, none⟩)] rfl Mp_ ?_; (with_reducible refine (spec_l10Env.calls k g s0_0 t313 t314 t315 t318 t321 t322 w0 _ ?side1 ?side2 A3.out).mono ?_); (case side1 => repeat (first | (with_reducible first | exact HI0.out | apply IsS145.alloc | apply IsS145.drewN | apply IsS145.drew | apply IsS145.set_1 | apply IsS145.set_2 | refine IsS145.far ?_ (Aside0.out (by with_reducible assumption)) _ | refine IsS145.far ?_ NB0_311.out _) | exact HI0.out)); (case side2 => repeat (first | (with_reducible first | exact HB.out | apply below_alloc | apply pw_below_drewN | apply below_drew1 | refine below_set ?_ (IsS145.ge HI0.out) | refine below_set ?_ GE311.out) | exact HB.out)); rintro e w11 ⟨v316, v319, rfl, ho0, ho1, hi, hb, hk⟩; refine ⟨_, rfl, ?_⟩; have HO317 := Aside0.mk (Kd.R_lower ho0 (keep_size (w := w) (g := g) (row := none) (by repeat (first | (with_reducible first | exact HK.out | apply KeepBut.set_ | apply keep_drewN | apply keep_drew | apply keep_alloc | refine keep_far ?_ GW311.out _) | exact HK.out)))); have HO320 := Aside0.mk (Kd.R_lower ho1 (keep_size (w := w) (g := g) (row := none) (by repeat (first | (with_reducible first | exact HK.out | apply KeepBut.set_ | apply keep_drewN | apply keep_drew | apply keep_alloc | refine keep_far ?_ GW311.out _) | exact HK.out)))); replace BK311 := Aside0.mk (KeepBut.blk hk (g' := gb311) (o := .cells #[.slice none 0 0, .slice none 0 0] 28 (0, 0)) (Bq_ BK311) NB311_0.out (by simp)); replace HK := Aside0.mk (KeepBut.trans (by repeat (first | (with_reducible first | exact HK.out | apply KeepBut.set_ | apply keep_drewN | apply keep_drew | apply keep_alloc | refine keep_far ?_ GW311.out _) | exact HK.out)) hk (.inl rfl)); replace HI0 := Aside0.mk (hi); replace HB := Aside0.mk (hb); (try clear hb); (try clear hb2); (try clear hk); (try clear hi); (try clear ho0); (try clear ho1); obtain ⟨Ao12, co12, eo12⟩ := Kd.R_slice HO317.out; subst eo12; obtain ⟨Ao13, co13, eo13⟩ := Kd.R_slice HO320.out; subst eo13) | ((with_reducible refine gate_callee (f := 67) rfl ?_); refine goesL_ (some 9) rfl rfl Try.func67 (by kernel_rfl) rfl #[.agg #[.slice Ao12 t315.length co12, .slice Ao13 t318.length co13]] rfl Mp_ ?_; (with_reducible refine (spec_l10Copy.calls _ _ t315 _ _ t318 t323 t326 _ ?side1 ?side2 ?side3 ?side4 A4.out).mono ?_); (case side1 => exact Cq_ (Kd.R_reads' HO317.out).2.2); (case side2 => exact (Kd.R_reads' HO317.out).2.1); (case side3 => exact Cq_ (Kd.R_reads' HO320.out).2.2); (case side4 => exact (Kd.R_reads' HO320.out).2.1); rintro e w14 ⟨v324, v327, rfl, ho0, ho1, hb⟩; refine ⟨_, rfl, ?_⟩; have n0_ := Rl_ HO317 ho0 hb; have n1_ := Rl_ HO320 ho1 hb; have n2_ := Aside0.mk (Kd.R_lower (Kd.R_new' ho0 (Kd.R_lt (Rq_ HO317))) (keep_size (w := w) (g := g) (row := none) (by repeat (first | (with_reducible first | exact HK.out | apply KeepBut.set_ | apply keep_drewN | apply keep_drew | apply keep_alloc | refine keep_far ?_ GW311.out _) | exact HK.out)))); have n3_ := Aside0.mk (Kd.R_lower (Kd.R_new' ho1 (Kd.R_lt (Rq_ HO320))) (keep_size (w := w) (g := g) (row := none) (by repeat (first | (with_reducible first | exact HK.out | apply KeepBut.set_ | apply keep_drewN | apply keep_drew | apply keep_alloc | refine keep_far ?_ GW311.out _) | exact HK.out)))); have n4_ := Aside0.mk (IsS145.below (by repeat (first | (with_reducible first | exact HI0.out | apply IsS145.alloc | apply IsS145.drewN | apply IsS145.drew | apply IsS145.set_1 | apply IsS145.set_2 | refine IsS145.far ?_ (Aside0.out (by with_reducible assumption)) _ | refine IsS145.far ?_ NB0_311.out _) | exact HI0.out)) hb); have n5_ := Bb_ BK311 hb; have n6_ := Aside0.mk (KeepBut.trans (by repeat (first | (with_reducible first | exact HK.out | apply KeepBut.set_ | apply keep_drewN | apply keep_drew | apply keep_alloc | refine keep_far ?_ GW311.out _) | exact HK.out)) (KeepBut.of_below hb g none) (.inl rfl)); have n7_ := Aside0.mk (below_step (by repeat (first | (with_reducible first | exact HB.out | apply below_alloc | apply pw_below_drewN | apply below_drew1 | refine below_set ?_ (IsS145.ge HI0.out) | refine below_set ?_ GE311.out) | exact HB.out)) hb); clear HO317; clear HO320; clear HI0; clear BK311; clear HK; clear HB; have HO317 := n0_; have HO320 := n1_; have HO325 := n2_; have HO328 := n3_; have HI0 := n4_; have BK311 := n5_; have HK := n6_; have HB := n7_; clear n0_ n1_ n2_ n3_ n4_ n5_ n6_ n7_; (try clear hb); (try clear hb2); (try clear hk); (try clear hi); (try clear ho0); (try clear ho1)) | ((with_reducible refine gate_dst (N := 4) rfl ?_); refine box_event ?hg (N := 4) ?hd (cs := #[.slice none 0 0, .slice none 0 0]) (t := 28) ?hr ?_; (case hd => rfl); (case hg => rfl); (case hr => first | (go_simp; done) | (go_simp; rfl)); intro gb329 hg w15 hbox hb; have n0_ := Rb_ HO317 hb; have n1_ := Rb_ HO320 hb; have n2_ := Rb_ HO325 hb; have n3_ := Rb_ HO328 hb; have n4_ := Aside0.mk (IsS145.below (by repeat (first | (with_reducible first | exact HI0.out | apply IsS145.alloc | apply IsS145.drewN | apply IsS145.drew | apply IsS145.set_1 | apply IsS145.set_2 | refine IsS145.far ?_ (Aside0.out (by with_reducible assumption)) _ | refine IsS145.far ?_ NB0_311.out _) | exact HI0.out)) hb); have n5_ := Bb_ BK311 hb; have n6_ := Aside0.mk (KeepBut.trans (by repeat (first | (with_reducible first | exact HK.out | apply KeepBut.set_ | apply keep_drewN | apply keep_drew | apply keep_alloc | refine keep_far ?_ GW311.out _) | exact HK.out)) (KeepBut.of_below hb g none) (.inl rfl)); have n7_ := Aside0.mk (below_step (by repeat (first | (with_reducible first | exact HB.out | apply below_alloc | apply pw_below_drewN | apply below_drew1 | refine below_set ?_ (IsS145.ge HI0.out) | refine below_set ?_ GE311.out) | exact HB.out)) hb); have n8_ := Aside0.mk (hbox); have n9_ := Aside0.mk ((by rw [hg]; exact (keep_size (w := w) (g := g) (row := none) (by repeat (first | (with_reducible first | exact HK.out | apply KeepBut.set_ | apply keep_drewN | apply keep_drew | apply keep_alloc | refine keep_far ?_ GW311.out _) | exact HK.out))) : w.heap.size ≤ gb329)); have n10_ := Aside0.mk ((Nat.le_trans HW0.out (by rw [hg]; exact (keep_size (w := w) (g := g) (row := none) (by repeat (first | (with_reducible first | exact HK.out | apply KeepBut.set_ | apply keep_drewN | apply keep_drew | apply keep_alloc | refine keep_far ?_ GW311.out _) | exact HK.out))) : w.heap.size ≤ gb329) : w0.heap.size ≤ gb329)); have n11_ := Bl_ BK311 hg; have n12_ := Bm_ (Bl_ BK311 hg); have n13_ := Aside0.mk ((by rw [hg]; exact Nat.ne_of_lt (IsS145.lt (show IsS145 w0 _ g s0_0 t321 t322 from by repeat (first | (with_reducible first | exact HI0.out | apply IsS145.alloc | apply IsS145.drewN | apply IsS145.drew | apply IsS145.set_1 | apply IsS145.set_2 | refine IsS145.far ?_ (Aside0.out (by with_reducible assumption)) _ | refine IsS145.far ?_ NB0_311.out _) | exact HI0.out))) : g ≠ gb329)); have n14_ := Aside0.mk ((by rw [hg]; exact Nat.ne_of_gt (IsS145.lt (show IsS145 w0 _ g s0_0 t321 t322 from by repeat (first | (with_reducible first | exact HI0.out | apply IsS145.alloc | apply IsS145.drewN | apply IsS145.drew | apply IsS145.set_1 | apply IsS145.set_2 | refine IsS145.far ?_ (Aside0.out (by with_reducible assumption)) _ | refine IsS145.far ?_ NB0_311.out _) | exact HI0.out))) : gb329 ≠ g)); clear HO317; clear HO320; clear HO325; clear HO328; clear HI0; clear BK311; clear HK; clear HB; have HO317 := n0_; have HO320 := n1_; have HO325 := n2_; have HO328 := n3_; have HI0 := n4_; have BK311 := n5_; have HK := n6_; have HB := n7_; have BK329 := n8_; have GW329 := n9_; have GE329 := n10_; have NB311_329 := n11_; have NB329_311 := n12_; have NB0_329 := n13_; have NB329_0 := n14_; clear n0_ n1_ n2_ n3_ n4_ n5_ n6_ n7_ n8_ n9_ n10_ n11_ n12_ n13_ n14_; clear hb hbox hg; obtain ⟨Ao16, co16, eo16⟩ := Kd.R_slice HO325.out; subst eo16; have hnb17 := NB329_311.out; have hnc17 := NB311_329.out; have hnb18 := NB329_0.out; have hnc18 := NB0_329.out; obtain ⟨hcz19_0, hcz19_1, hfz19_0, hfz19_1⟩ := Bc2_ BK329; obtain ⟨Ao20, co20, eo20⟩ := Kd.R_slice HO328.out; subst eo20))
   have n0_ : Aside0 (Kd.R Kd.string 9 ((w15.setCell ⟨gb329, 0, none⟩ (.slice Ao16 t323.length co16)).setCell ⟨gb329, 1, none⟩ (.slice Ao20 t326.length co20)) w.heap.size (fun k_ => some k_ ≠ (.slice Ao16 t323.length co16 : Value).ownBlock) (.slice Ao12 t315.length co12) t315) := ⟨by (with_reducible repeat (first | apply Kd.R_alloc | apply Kd.R_drewN | apply Kd.R_drew)); exact Kd.R_mono (Kd.R_far (p := ⟨gb329, 1, none⟩) (Kd.R_far (p := ⟨gb329, 0, none⟩) (Kd.R_types HO317.out BK329.out (by decide)) (fun _ hk => hk.2) (.slice Ao16 t323.length co16)) (fun _ hk => hk.2) (.slice Ao20 t326.length co20)) (fun _ hk => hk.1.2)⟩
   have n1_ : Aside0 (Kd.R (Kd.int .i64) 3 ((w15.setCell ⟨gb329, 0, none⟩ (.slice Ao16 t323.length co16)).setCell ⟨gb329, 1, none⟩ (.slice Ao20 t326.length co20)) w.heap.size (fun k_ => some k_ ≠ (.slice Ao20 t326.length co20 : Value).ownBlock) (.slice Ao13 t318.length co13) t318) := ⟨by (with_reducible repeat (first | apply Kd.R_alloc | apply Kd.R_drewN | apply Kd.R_drew)); exact Kd.R_mono (Kd.R_far (p := ⟨gb329, 1, none⟩) (Kd.R_far (p := ⟨gb329, 0, none⟩) (Kd.R_types HO320.out BK329.out (by decide)) (fun _ hk => hk.2) (.slice Ao16 t323.length co16)) (fun _ hk => hk.2) (.slice Ao20 t326.length co20)) (fun _ hk => hk.1.2)⟩
   have n2_ : Aside0 (Kd.R Kd.string 9 ((w15.setCell ⟨gb329, 0, none⟩ (.slice Ao16 t323.length co16)).setCell ⟨gb329, 1, none⟩ (.slice Ao20 t326.length co20)) w.heap.size (fun k_ => some k_ ≠ (.slice Ao12 t315.length co12 : Value).ownBlock) (.slice Ao16 t323.length co16) t323) := ⟨by (with_reducible repeat (first | apply Kd.R_alloc | apply Kd.R_drewN | apply Kd.R_drew)); exact Kd.R_mono (Kd.R_far (p := ⟨gb329, 1, none⟩) (Kd.R_far (p := ⟨gb329, 0, none⟩) (Kd.R_types HO325.out BK329.out (by decide)) (fun _ hk => hk.2) (.slice Ao16 t323.length co16)) (fun _ hk => hk.2) (.slice Ao20 t326.length co20)) (fun _ hk => hk.1.2)⟩
   have n3_ : Aside0 (Kd.R (Kd.int .i64) 3 ((w15.setCell ⟨gb329, 0, none⟩ (.slice Ao16 t323.length co16)).setCell ⟨gb329, 1, none⟩ (.slice Ao20 t326.length co20)) w.heap.size (fun k_ => some k_ ≠ (.slice Ao13 t318.length co13 : Value).ownBlock) (.slice Ao20 t326.length co20) t326) := ⟨by (with_reducible repeat (first | apply Kd.R_alloc | apply Kd.R_drewN | apply Kd.R_drew)); exact Kd.R_mono (Kd.R_far (p := ⟨gb329, 1, none⟩) (Kd.R_far (p := ⟨gb329, 0, none⟩) (Kd.R_types HO328.out BK329.out (by decide)) (fun _ hk => hk.2) (.slice Ao16 t323.length co16)) (fun _ hk => hk.2) (.slice Ao20 t326.length co20)) (fun _ hk => hk.1.2)⟩
   have n4_ : Aside0 (((w15.setCell ⟨gb329, 0, none⟩ (.slice Ao16 t323.length co16)).setCell ⟨gb329, 1, none⟩ (.slice Ao20 t326.length co20)).heap[gb311]? = some (.cells #[.slice none 0 0, .slice none 0 0] 28 (0, 0))) := ⟨by (with_reducible repeat (first | refine blk_drewN ?_ _ | refine blk_drew ?_ | refine blk_alloc ?_ _)); refine blk_far ?_ NB311_329.out _; (with_reducible repeat (first | refine blk_drewN ?_ _ | refine blk_drew ?_ | refine blk_alloc ?_ _)); refine blk_far ?_ NB311_329.out _; (with_reducible repeat (first | refine blk_drewN ?_ _ | refine blk_drew ?_ | refine blk_alloc ?_ _)); exact BK311.out⟩
   have n5_ : Aside0 (((w15.setCell ⟨gb329, 0, none⟩ (.slice Ao16 t323.length co16)).setCell ⟨gb329, 1, none⟩ (.slice Ao20 t326.length co20)).heap[gb329]? = some (.cells #[.slice Ao16 t323.length co16, .slice Ao20 t326.length co20] 28 (0, 0))) := ⟨by (with_reducible repeat (first | refine blk_drewN ?_ _ | refine blk_drew ?_ | refine blk_alloc ?_ _)); refine blk_put (cs := #[.slice Ao16 t323.length co16, .slice none 0 0]) ?_ 1 _ rfl; (with_reducible repeat (first | refine blk_drewN ?_ _ | refine blk_drew ?_ | refine blk_alloc ?_ _)); refine blk_put (cs := #[.slice none 0 0, .slice none 0 0]) ?_ 0 _ rfl; (with_reducible repeat (first | refine blk_drewN ?_ _ | refine blk_drew ?_ | refine blk_alloc ?_ _)); exact BK329.out⟩
   have n6_ : Aside0 (IsS145 w0 ((w15.setCell ⟨gb329, 0, none⟩ (.slice Ao16 t323.length co16)).setCell ⟨gb329, 1, none⟩ (.slice Ao20 t326.length co20)) g s0_0 t321 t322) := ⟨by repeat (first | (with_reducible first | exact HI0.out | apply IsS145.alloc | apply IsS145.drewN | apply IsS145.drew | apply IsS145.set_1 | apply IsS145.set_2 | refine IsS145.far ?_ (Aside0.out (by with_reducible assumption)) _ | refine IsS145.far ?_ NB0_311.out _ | refine IsS145.far ?_ NB0_329.out _) | exact HI0.out)⟩
   have n7_ : Aside0 (KeepBut w ((w15.setCell ⟨gb329, 0, none⟩ (.slice Ao16 t323.length co16)).setCell ⟨gb329, 1, none⟩ (.slice Ao20 t326.length co20)) g none) := ⟨by repeat (first | (with_reducible first | exact HK.out | apply KeepBut.set_ | apply keep_drewN | apply keep_drew | apply keep_alloc | refine keep_far ?_ GW311.out _ | refine keep_far ?_ GW329.out _) | exact HK.out)⟩
   have n8_ : Aside0 (Below w0.heap.size w0 ((w15.setCell ⟨gb329, 0, none⟩ (.slice Ao16 t323.length co16)).setCell ⟨gb329, 1, none⟩ (.slice Ao20 t326.length co20))) := ⟨by repeat (first | (with_reducible first | exact HB.out | apply below_alloc | apply pw_below_drewN | apply below_drew1 | refine below_set ?_ (IsS145.ge HI0.out) | refine below_set ?_ GE311.out | refine below_set ?_ GE329.out) | exact HB.out)⟩
   (try clear HO317)
   (try clear HO320)
   (try clear HO325)
   (try clear HO328)
   (try clear BK311)
   (try clear BK329)
   (try clear HI0)
   (try clear HK)
   (try clear HB)
   generalize ((w15.setCell ⟨gb329, 0, none⟩ (.slice Ao16 t323.length co16)).setCell ⟨gb329, 1, none⟩ (.slice Ao20 t326.length co20)) = w21 at n0_ n1_ n2_ n3_ n4_ n5_ n6_ n7_ n8_ ⊢
   have HO317 := n0_
   have HO320 := n1_
   have HO325 := n2_
   have HO328 := n3_
   have BK311 := n4_
   have BK329 := n5_
   have HI0 := n6_
   have HK := n7_
   have HB := n8_
   clear n0_ n1_ n2_ n3_ n4_ n5_ n6_ n7_ n8_
   replace HO317 := Aside0.mk (Kd.R_drew HO317.out); replace HO320 := Aside0.mk (Kd.R_drew HO320.out); replace HO325 := Aside0.mk (Kd.R_drew HO325.out); replace HO328 := Aside0.mk (Kd.R_drew HO328.out); replace BK311 := Aside0.mk (blk_drew BK311.out); replace BK329 := Aside0.mk (blk_drew BK329.out); replace HI0 := Aside0.mk (IsS145.drew HI0.out); replace HK := Aside0.mk (keep_drew HK.out); replace HB := Aside0.mk (below_drew1 HB.out)
   refine start_ (n := 6) (S := fun w' => w'.cell? ⟨gb329, 0, none⟩ = some (.slice Ao16 t323.length co16) ∧ w'.cell? ⟨gb329, 1, none⟩ = some (.slice Ao20 t326.length co20)) (ds := [5]) #[false, false, false, false, false, false] (by kernel_rfl) rfl rfl ⟨(blk_cell BK329.out 0).trans rfl, (blk_cell BK329.out 1).trans rfl⟩ (fun hHeld => ?_)
   generalize w21.drew = w22 at HO317 HO320 HO325 HO328 BK311 BK329 HI0 HK HB hHeld ⊢
   refine pure_ (i := 0) (N := some 13) (v := ?_) (a' := ?_) #[true, false, false, false, false, false] rfl rfl (by kernel_rfl) (fun _ _ _ h => h) (Or.inl ⟨by rfl, ?_⟩) ?_ ?_
   rotate_left
   ·intro w'
    go_simp
    with_reducible rfl
   rotate_left
   ·simp only [Act.put, List.setIfInBounds_toArray, List.set_cons_zero, List.set_cons_succ, i64_w, i32_w]
    rfl
   refine pure_ (i := 2) (N := some 15) (v := ?_) (a' := ?_) #[true, false, true, false, false, false] rfl rfl (by kernel_rfl) (fun _ _ _ h => h) (Or.inl ⟨by rfl, ?_⟩) ?_ ?_
   rotate_left
   ·intro w'
    go_simp
    with_reducible rfl
   rotate_left
   ·simp only [Act.put, List.setIfInBounds_toArray, List.set_cons_zero, List.set_cons_succ, i64_w, i32_w]
    rfl
   refine take_ (i := 1) (N := some 14) (v := ?_) (a' := ?_) #[true, true, true, false, false, false] rfl rfl (by kernel_rfl) (fun _ _ _ h => h) (Or.inl ⟨by rfl, ?_⟩) hHeld ?_ ?_
   rotate_left
   ·rintro w' ⟨s0, s1⟩
    go_simp
    with_reducible rfl
   rotate_left
   ·simp only [Act.put, List.setIfInBounds_toArray, List.set_cons_zero, List.set_cons_succ, i64_w, i32_w]
    rfl
   refine one_ (i := 3) (N := some 16) #[true, true, true, true, false, false] rfl rfl (by kernel_rfl) (by decide) (fun K hK => ?_)
   refine goes_ Try.func88 (by kernel_rfl) rfl #[.pointer (some ⟨g, 0, none⟩)] (by rfl) rfl rfl Mp_ ?_
   with_reducible refine (spec_l03Val.calls g s0_0 t321 t322 t330 t331 t332 w0 _ ?side1 ?side2 A6.out).mono ?_
   (case side1 => repeat (first | (with_reducible first | exact HI0.out | apply IsS145.alloc | apply IsS145.drewN | apply IsS145.drew | apply IsS145.set_1 | apply IsS145.set_2 | refine IsS145.far ?_ (Aside0.out (by with_reducible assumption)) _ | refine IsS145.far ?_ NB0_311.out _ | refine IsS145.far ?_ NB0_329.out _) | exact HI0.out))
   (case side2 => repeat (first | (with_reducible first | exact HB.out | apply below_alloc | apply pw_below_drewN | apply below_drew1 | refine below_set ?_ (IsS145.ge HI0.out) | refine below_set ?_ GE311.out | refine below_set ?_ GE329.out) | exact HB.out))
   rintro e w23 ⟨rfl, hi, hb, hk⟩
   refine ⟨_, rfl, ?_⟩
   replace BK311 := Aside0.mk (KeepBut.blk hk (g' := gb311) (o := .cells #[.slice none 0 0, .slice none 0 0] 28 (0, 0)) (Bq_ BK311) NB311_0.out (by simp)); replace HO317 := Aside0.mk (Kd.R_mono (Kd.R_keep (IsS145.apart (show IsS145 w0 _ g s0_0 t321 t322 from by repeat (first | (with_reducible first | exact HI0.out | apply IsS145.alloc | apply IsS145.drewN | apply IsS145.drew | apply IsS145.set_1 | apply IsS145.set_2 | refine IsS145.far ?_ (Aside0.out (by with_reducible assumption)) _ | refine IsS145.far ?_ NB0_311.out _ | refine IsS145.far ?_ NB0_329.out _) | exact HI0.out)) (Rq_ HO317) (by decide)) hk (fun _ h => h.2)) (fun _ h => h.1)); replace HO320 := Aside0.mk (Kd.R_mono (Kd.R_keep (IsS145.apart (show IsS145 w0 _ g s0_0 t321 t322 from by repeat (first | (with_reducible first | exact HI0.out | apply IsS145.alloc | apply IsS145.drewN | apply IsS145.drew | apply IsS145.set_1 | apply IsS145.set_2 | refine IsS145.far ?_ (Aside0.out (by with_reducible assumption)) _ | refine IsS145.far ?_ NB0_311.out _ | refine IsS145.far ?_ NB0_329.out _) | exact HI0.out)) (Rq_ HO320) (by decide)) hk (fun _ h => h.2)) (fun _ h => h.1)); replace HO325 := Aside0.mk (Kd.R_mono (Kd.R_keep (IsS145.apart (show IsS145 w0 _ g s0_0 t321 t322 from by repeat (first | (with_reducible first | exact HI0.out | apply IsS145.alloc | apply IsS145.drewN | apply IsS145.drew | apply IsS145.set_1 | apply IsS145.set_2 | refine IsS145.far ?_ (Aside0.out (by with_reducible assumption)) _ | refine IsS145.far ?_ NB0_311.out _ | refine IsS145.far ?_ NB0_329.out _) | exact HI0.out)) (Rq_ HO325) (by decide)) hk (fun _ h => h.2)) (fun _ h => h.1)); replace HO328 := Aside0.mk (Kd.R_mono (Kd.R_keep (IsS145.apart (show IsS145 w0 _ g s0_0 t321 t322 from by repeat (first | (with_reducible first | exact HI0.out | apply IsS145.alloc | apply IsS145.drewN | apply IsS145.drew | apply IsS145.set_1 | apply IsS145.set_2 | refine IsS145.far ?_ (Aside0.out (by with_reducible assumption)) _ | refine IsS145.far ?_ NB0_311.out _ | refine IsS145.far ?_ NB0_329.out _) | exact HI0.out)) (Rq_ HO328) (by decide)) hk (fun _ h => h.2)) (fun _ h => h.1)); replace BK329 := Aside0.mk (KeepBut.blk hk (g' := gb329) (o := .cells #[.slice Ao16 t323.length co16, .slice Ao20 t326.length co20] 28 (0, 0)) (Bq_ BK329) NB329_0.out (by simp)); replace HK := Aside0.mk (KeepBut.trans (by repeat (first | (with_reducible first | exact HK.out | apply KeepBut.set_ | apply keep_drewN | apply keep_drew | apply keep_alloc | refine keep_far ?_ GW311.out _ | refine keep_far ?_ GW329.out _) | exact HK.out)) hk (.inl rfl)); replace HI0 := Aside0.mk (hi); replace HB := Aside0.mk (hb)
   (try clear hb)
   (try clear hb2)
   (try clear hk)
   (try clear hi)
   have p8 : 0 ≤ (0 : Int) := (by omega)
   have q8 : (0 : Int) < ((t326.length : Int) : Int) := of_decide_eq_true As_
   have qi8 : (0 < t326.length) = True := eq_true (by omega)
   obtain ⟨go8, co8, eo8, gb8, gl8, cl8, HG8⟩ := Kd.R_form HO328.out (by omega)
   (first | cases eo8 | (injection eo8 with ea_ en_ ec_; (first | subst ea_ | (injection ea_ with ea_; subst ea_)); subst ec_; clear en_))
   have GB8 := Aside0.mk gb8
   have GG8 := Aside0.mk HG8
   clear gb8 gl8 HG8
   obtain ⟨hx8_0, hf8_0⟩ := Kd.R_celln 0 HO328.out (0 : Int) p8 q8
   (try rw [show ((0 : Int)).toNat = 0 from rfl] at hx8_0)
   (try simp only [Nat.reduceMul, Nat.zero_mul, Nat.zero_add, Nat.reduceAdd] at hx8_0)
   (try rw [show ((0 : Int)).toNat = 0 from rfl] at hf8_0)
   (try simp only [Nat.reduceMul, Nat.zero_mul, Nat.zero_add, Nat.reduceAdd] at hf8_0)
   replace p8 := eq_true p8
   replace q8 := eq_true q8
   have HN0_go8 := Aside0.mk (show g ≠ go8 from by have h_ := IsS145.own_ne HI0.out HO328.out (by decide); intro e_; exact h_ (by rw [e_]; rfl))
   have HP24 := Kd.R_putn HO328.out (0 : Int) t330
   rw [← Ny333.out] at HP24
   have HQ24 := Aside0.mk HP24
   clear HP24
   refine hK.out _ _ ⟨(blk_cell BK329.out 0).trans rfl, (blk_cell BK329.out 1).trans rfl⟩ (fun hHeld => ?_)
   clear hK K
   refine norm_ (a' := ?_) ?_ ?_
   rotate_left
   ·show Act.put _ (some 16) _ = _
    simp only [Act.put, List.setIfInBounds_toArray, List.set_cons_zero, List.set_cons_succ, i64_w, i32_w]
    rfl
   refine pure_ (i := 4) (N := some 17) (v := ?_) (a' := ?_) #[true, true, true, true, true, false] rfl rfl (by kernel_rfl) (fun _ _ _ h => h) (Or.inl ⟨by rfl, ?_⟩) ?_ ?_
   rotate_left
   ·intro w'
    go_simp
    with_reducible rfl
   rotate_left
   ·simp only [Act.put, List.setIfInBounds_toArray, List.set_cons_zero, List.set_cons_succ, i64_w, i32_w]
    rfl
   refine last_ (i := 5) (N := none) #[true, true, true, true, true, true] rfl rfl (by kernel_rfl) (by decide) (fun K hK => ?_)
   refine skip_ (w1 := ?_) (by rfl) rfl ?_ ?_
   rotate_left
   ·go_simp
    rfl
   refine hK.out _ _ ?_
   clear hK K
   refine done_ (by kernel_rfl) ?_
   have n0_ : Aside0 (Kd.R Kd.string 9 (w23.setCell ⟨go8, 0, none⟩ (.int .i64 t330)) w.heap.size (fun k_ => some k_ ≠ (.slice Ao16 t323.length co16 : Value).ownBlock) (.slice Ao12 t315.length co12) t315) := ⟨by (with_reducible repeat (first | apply Kd.R_alloc | apply Kd.R_drewN | apply Kd.R_drew)); exact Kd.R_mono (Kd.R_far (p := ⟨go8, 0, none⟩) (Kd.R_types HO317.out GG8.out (by decide)) (fun _ hk => hk.2) (.int .i64 t330)) (fun _ hk => hk.1)⟩
   have n1_ : Aside0 (Kd.R (Kd.int .i64) 3 (w23.setCell ⟨go8, 0, none⟩ (.int .i64 t330)) w.heap.size (fun k_ => some k_ ≠ (.slice (some ⟨go8, 0, none⟩) t326.length co20 : Value).ownBlock) (.slice Ao13 t318.length co13) t318) := ⟨by (with_reducible repeat (first | apply Kd.R_alloc | apply Kd.R_drewN | apply Kd.R_drew)); exact Kd.R_mono (Kd.R_far (p := ⟨go8, 0, none⟩) (Kd.R_mono HO320.out (fun k_ hk => (⟨hk, fun e_ => hk (by rw [e_]; rfl)⟩ : _ ∧ k_ ≠ go8))) (fun _ hk => hk.2) (.int .i64 t330)) (fun _ hk => hk.1)⟩
   have n2_ : Aside0 (Kd.R Kd.string 9 (w23.setCell ⟨go8, 0, none⟩ (.int .i64 t330)) w.heap.size (fun k_ => some k_ ≠ (.slice Ao12 t315.length co12 : Value).ownBlock) (.slice Ao16 t323.length co16) t323) := ⟨by (with_reducible repeat (first | apply Kd.R_alloc | apply Kd.R_drewN | apply Kd.R_drew)); exact Kd.R_mono (Kd.R_far (p := ⟨go8, 0, none⟩) (Kd.R_types HO325.out GG8.out (by decide)) (fun _ hk => hk.2) (.int .i64 t330)) (fun _ hk => hk.1)⟩
   have n3_ : Aside0 (Kd.R (Kd.int .i64) 3 (w23.setCell ⟨go8, 0, none⟩ (.int .i64 t330)) w.heap.size (fun k_ => some k_ ≠ (.slice Ao13 t318.length co13 : Value).ownBlock) (.slice (some ⟨go8, 0, none⟩) t326.length co20) y333) := ⟨by (with_reducible repeat (first | apply Kd.R_alloc | apply Kd.R_drewN | apply Kd.R_drew)); exact HQ24.out⟩
   have n4_ : Aside0 ((w23.setCell ⟨go8, 0, none⟩ (.int .i64 t330)).heap[gb311]? = some (.cells #[.slice none 0 0, .slice none 0 0] 28 (0, 0))) := ⟨by (with_reducible repeat (first | refine blk_drewN ?_ _ | refine blk_drew ?_ | refine blk_alloc ?_ _)); refine blk_far ?_ (by have h_ := Kd.R_ne HO328.out BK311.out (by decide); intro e_; exact h_ (by rw [e_]; rfl)) _; (with_reducible repeat (first | refine blk_drewN ?_ _ | refine blk_drew ?_ | refine blk_alloc ?_ _)); exact BK311.out⟩
   have n5_ : Aside0 ((w23.setCell ⟨go8, 0, none⟩ (.int .i64 t330)).heap[gb329]? = some (.cells #[.slice Ao16 t323.length co16, .slice (some ⟨go8, 0, none⟩) t326.length co20] 28 (0, 0))) := ⟨by (with_reducible repeat (first | refine blk_drewN ?_ _ | refine blk_drew ?_ | refine blk_alloc ?_ _)); refine blk_far ?_ (by have h_ := Kd.R_ne HO328.out BK329.out (by decide); intro e_; exact h_ (by rw [e_]; rfl)) _; (with_reducible repeat (first | refine blk_drewN ?_ _ | refine blk_drew ?_ | refine blk_alloc ?_ _)); exact BK329.out⟩
   have n6_ : Aside0 (IsS145 w0 (w23.setCell ⟨go8, 0, none⟩ (.int .i64 t330)) g s0_0 t331 t332) := ⟨by repeat (first | (with_reducible first | exact HI0.out | apply IsS145.alloc | apply IsS145.drewN | apply IsS145.drew | apply IsS145.set_1 | apply IsS145.set_2 | refine IsS145.far ?_ (Aside0.out (by with_reducible assumption)) _ | refine IsS145.far ?_ HN0_go8.out _ | refine IsS145.far ?_ NB0_311.out _ | refine IsS145.far ?_ NB0_329.out _) | exact HI0.out)⟩
   have n7_ : Aside0 (KeepBut w (w23.setCell ⟨go8, 0, none⟩ (.int .i64 t330)) g none) := ⟨by repeat (first | (with_reducible first | exact HK.out | apply KeepBut.set_ | apply keep_drewN | apply keep_drew | apply keep_alloc | refine keep_far ?_ GB8.out _ | refine keep_far ?_ GW311.out _ | refine keep_far ?_ GW329.out _) | exact HK.out)⟩
   have n8_ : Aside0 (Below w0.heap.size w0 (w23.setCell ⟨go8, 0, none⟩ (.int .i64 t330))) := ⟨by repeat (first | (with_reducible first | exact HB.out | apply below_alloc | apply pw_below_drewN | apply below_drew1 | refine below_set ?_ (Nat.le_trans HL.out GB8.out) | refine below_set ?_ (IsS145.ge HI0.out) | refine below_set ?_ GE311.out | refine below_set ?_ GE329.out) | exact HB.out)⟩
   (try clear HO317)
   (try clear HO320)
   (try clear HO325)
   (try clear HO328)
   (try clear BK311)
   (try clear BK329)
   (try clear HI0)
   (try clear HK)
   (try clear HB)
   generalize (w23.setCell ⟨go8, 0, none⟩ (.int .i64 t330)) = w25 at n0_ n1_ n2_ n3_ n4_ n5_ n6_ n7_ n8_ ⊢
   have HO317 := n0_
   have HO320 := n1_
   have HO325 := n2_
   have HO328 := n3_
   have BK311 := n4_
   have BK329 := n5_
   have HI0 := n6_
   have HK := n7_
   have HB := n8_
   clear n0_ n1_ n2_ n3_ n4_ n5_ n6_ n7_ n8_
   obtain ⟨hcz26_0, hcz26_1, hfz26_0, hfz26_1⟩ := Bc2_ BK329
   have hnb27 := NB311_0.out
   have hnc27 := NB0_311.out
   obtain ⟨hcz28_0, hcz28_1, hfz28_0, hfz28_1⟩ := Bc2_ BK311
   try go_wp2
   refine bodyPost_ret (results_cell_row rfl _ _ gb311 28 #[.slice Ao16 t323.length co16, .slice (some ⟨go8, 0, none⟩) t326.length co20] (0, 0) _ rfl (by (with_reducible repeat (first | refine blk_drewN ?_ _ | refine blk_drew ?_ | refine blk_alloc ?_ _)); refine blk_put (cs := #[.slice Ao16 t323.length co16, .slice none 0 0]) ?_ 1 _ rfl; (with_reducible repeat (first | refine blk_drewN ?_ _ | refine blk_drew ?_ | refine blk_alloc ?_ _)); refine blk_put (cs := #[.slice none 0 0, .slice none 0 0]) ?_ 0 _ rfl; (with_reducible repeat (first | refine blk_drewN ?_ _ | refine blk_drew ?_ | refine blk_alloc ?_ _)); exact BK311.out) Try.underlying28 rfl (by kernel_rfl)) rfl ?_
   exact ⟨_, _, Re_, by (with_reducible repeat (first | apply Kd.R_alloc | apply Kd.R_drewN | apply Kd.R_drew)); exact Kd.R_mono (Kd.R_far (p := ⟨gb311, 1, none⟩) (Kd.R_far (p := ⟨gb311, 0, none⟩) (Kd.R_types HO325.out BK311.out (by decide)) (fun _ hk => hk.2) (.slice Ao16 t323.length co16)) (fun _ hk => hk.2) (.slice (some ⟨go8, 0, none⟩) t326.length co20)) (fun _ hk => trivial), by (with_reducible repeat (first | apply Kd.R_alloc | apply Kd.R_drewN | apply Kd.R_drew)); exact Kd.R_mono (Kd.R_far (p := ⟨gb311, 1, none⟩) (Kd.R_far (p := ⟨gb311, 0, none⟩) (Kd.R_types HO328.out BK311.out (by decide)) (fun _ hk => hk.2) (.slice Ao16 t323.length co16)) (fun _ hk => hk.2) (.slice (some ⟨go8, 0, none⟩) t326.length co20)) (fun _ hk => trivial), by repeat (first | (with_reducible first | exact HI0.out | apply IsS145.alloc | apply IsS145.drewN | apply IsS145.drew | apply IsS145.set_1 | apply IsS145.set_2 | refine IsS145.far ?_ (Aside0.out (by with_reducible assumption)) _ | refine IsS145.far ?_ NB0_311.out _ | refine IsS145.far ?_ NB0_329.out _) | exact HI0.out), by repeat (first | (with_reducible first | exact HB.out | apply below_alloc | apply pw_below_drewN | apply below_drew1 | refine below_set ?_ (IsS145.ge HI0.out) | refine below_set ?_ GE311.out | refine below_set ?_ GE329.out) | exact HB.out), by repeat (first | (with_reducible first | exact HK.out | apply KeepBut.set_ | apply keep_drewN | apply keep_drew | apply keep_alloc | refine keep_far ?_ GW311.out _ | refine keep_far ?_ GW329.out _) | exact HK.out)⟩
  ·rw [if_neg c7] at H
   exact absurd H (by simp)
 ·rw [if_neg c5] at H
  have c5b0 : (t312 == 0) = false := beq_eq_false_iff_ne.mpr c5
  have c5b1 : (t312 != 0) = true := bne_iff_ne.mpr c5
  by_cases c29 : t312 = 1
  ·rw [if_pos c29] at H
   have c29b0 : (t312 == 1) = true := beq_iff_eq.mpr c29
   have c29b1 : (t312 != 1) = false := bne_eq_false_iff_eq.mpr c29
   clear c29
   by_cases c30 : t323.length < 8796093022208
   ·rw [if_pos c30] at H
    have LMc30 := Aside0.mk c30
    clear c30
    obtain ⟨y334, hy334⟩ : ∃ y_ : List ByteArray, y_ = (t323 ++ [(⟨#[118]⟩ : ByteArray)]) := ⟨_, rfl⟩
    replace H : (some (y334, t326, t321, t322)) = some (r1, r2, r3, r4) := by first | (rw [hy334]; with_reducible exact H) | (have H2_ := (Option.bind_some _ _).symm.trans H; rw [hy334]; with_reducible exact H2_) | (have H2_ := (Option.bind_some _ _).symm.trans H; with_reducible exact H2_) | with_reducible exact H | (rw [hy334]; exact H) | exact H
    have Ny334 := Aside0.mk hy334
    clear hy334
    simp only [Option.some.injEq, Prod.mk.injEq] at H
    obtain ⟨rfl, rfl, rfl, rfl⟩ := H
    go_enter Try.func86, Try.ntmps86
    go_wp2_with (first | ((with_reducible refine gate_dst (N := 2) rfl ?_); refine box_event ?hg (N := 2) ?hd (cs := #[.slice none 0 0, .slice none 0 0]) (t := 28) ?hr ?_; (case hd => rfl); (case hg => rfl); (case hr => first | (go_simp; done) | (go_simp; rfl)); intro gb311 hg w31 hbox hb; have n0_ := Aside0.mk (IsS145.below (by repeat (first | (with_reducible first | exact HI0.out | apply IsS145.alloc | apply IsS145.drewN | apply IsS145.drew | apply IsS145.set_1 | apply IsS145.set_2 | refine IsS145.far ?_ (Aside0.out (by with_reducible assumption)) _) | exact HI0.out)) hb); have n1_ := Aside0.mk (KeepBut.trans (by repeat (first | (with_reducible first | exact HK.out | apply KeepBut.set_ | apply keep_drewN | apply keep_drew | apply keep_alloc) | exact HK.out)) (KeepBut.of_below hb g none) (.inl rfl)); have n2_ := Aside0.mk (below_step (by repeat (first | (with_reducible first | exact HB.out | apply below_alloc | apply pw_below_drewN | apply below_drew1 | refine below_set ?_ (IsS145.ge HI0.out)) | exact HB.out)) hb); have n3_ := Aside0.mk (hbox); have n4_ := Aside0.mk ((by rw [hg]; exact (keep_size (w := w) (g := g) (row := none) (by repeat (first | (with_reducible first | exact HK.out | apply KeepBut.set_ | apply keep_drewN | apply keep_drew | apply keep_alloc) | exact HK.out))) : w.heap.size ≤ gb311)); have n5_ := Aside0.mk ((Nat.le_trans HW0.out (by rw [hg]; exact (keep_size (w := w) (g := g) (row := none) (by repeat (first | (with_reducible first | exact HK.out | apply KeepBut.set_ | apply keep_drewN | apply keep_drew | apply keep_alloc) | exact HK.out))) : w.heap.size ≤ gb311) : w0.heap.size ≤ gb311)); have n6_ := Aside0.mk ((by rw [hg]; exact Nat.ne_of_lt (IsS145.lt (show IsS145 w0 _ g s0_0 s0_1 s0_2 from by repeat (first | (with_reducible first | exact HI0.out | apply IsS145.alloc | apply IsS145.drewN | apply IsS145.drew | apply IsS145.set_1 | apply IsS145.set_2 | refine IsS145.far ?_ (Aside0.out (by with_reducible assumption)) _) | exact HI0.out))) : g ≠ gb311)); have n7_ := Aside0.mk ((by rw [hg]; exact Nat.ne_of_gt (IsS145.lt (show IsS145 w0 _ g s0_0 s0_1 s0_2 from by repeat (first | (with_reducible first | exact HI0.out | apply IsS145.alloc | apply IsS145.drewN | apply IsS145.drew | apply IsS145.set_1 | apply IsS145.set_2 | refine IsS145.far ?_ (Aside0.out (by with_reducible assumption)) _) | exact HI0.out))) : gb311 ≠ g)); clear HI0; clear HK; clear HB; have HI0 := n0_; have HK := n1_; have HB := n2_; have BK311 := n3_; have GW311 := n4_; have GE311 := n5_; have NB0_311 := n6_; have NB311_0 := n7_; clear n0_ n1_ n2_ n3_ n4_ n5_ n6_ n7_; clear hb hbox hg) | ((with_reducible refine gate_callee (f := 85) rfl ?_); refine goesL_ (some 6) rfl rfl Try.func85 (by kernel_rfl) rfl #[.pointer (some ⟨g, 0, none⟩), .int .i64 10] rfl Mp_ ?_; (with_reducible refine (spec_l01Below.calls g s0_0 s0_1 s0_2 10 t312 t313 t314 w0 _ ?side1 ?side2 A2.out).mono ?_); (case side1 => repeat (first | (with_reducible first | exact HI0.out | apply IsS145.alloc | apply IsS145.drewN | apply IsS145.drew | apply IsS145.set_1 | apply IsS145.set_2 | refine IsS145.far ?_ (Aside0.out (by with_reducible assumption)) _ | refine IsS145.far ?_ NB0_311.out _) | exact HI0.out)); (case side2 => repeat (first | (with_reducible first | exact HB.out | apply below_alloc | apply pw_below_drewN | apply below_drew1 | refine below_set ?_ (IsS145.ge HI0.out) | refine below_set ?_ GE311.out) | exact HB.out)); rintro e w32 ⟨rfl, hi, hb, hk⟩; refine ⟨_, rfl, ?_⟩; replace BK311 := Aside0.mk (KeepBut.blk hk (g' := gb311) (o := .cells #[.slice none 0 0, .slice none 0 0] 28 (0, 0)) (Bq_ BK311) NB311_0.out (by simp)); replace HK := Aside0.mk (KeepBut.trans (by repeat (first | (with_reducible first | exact HK.out | apply KeepBut.set_ | apply keep_drewN | apply keep_drew | apply keep_alloc | refine keep_far ?_ GW311.out _) | exact HK.out)) hk (.inl rfl)); replace HI0 := Aside0.mk (hi); replace HB := Aside0.mk (hb); (try clear hb); (try clear hb2); (try clear hk); (try clear hi)) | ((with_reducible refine gate_callee (f := 82) rfl ?_); refine goesL_ (some 8) rfl rfl Try.func82 (by kernel_rfl) rfl #[.pointer (some ⟨g, 0, none⟩)] rfl Mp_ ?_; (with_reducible refine (spec_l10Env.calls k g s0_0 t313 t314 t315 t318 t321 t322 w0 _ ?side1 ?side2 A3.out).mono ?_); (case side1 => repeat (first | (with_reducible first | exact HI0.out | apply IsS145.alloc | apply IsS145.drewN | apply IsS145.drew | apply IsS145.set_1 | apply IsS145.set_2 | refine IsS145.far ?_ (Aside0.out (by with_reducible assumption)) _ | refine IsS145.far ?_ NB0_311.out _) | exact HI0.out)); (case side2 => repeat (first | (with_reducible first | exact HB.out | apply below_alloc | apply pw_below_drewN | apply below_drew1 | refine below_set ?_ (IsS145.ge HI0.out) | refine below_set ?_ GE311.out) | exact HB.out)); rintro e w33 ⟨v316, v319, rfl, ho0, ho1, hi, hb, hk⟩; refine ⟨_, rfl, ?_⟩; have HO317 := Aside0.mk (Kd.R_lower ho0 (keep_size (w := w) (g := g) (row := none) (by repeat (first | (with_reducible first | exact HK.out | apply KeepBut.set_ | apply keep_drewN | apply keep_drew | apply keep_alloc | refine keep_far ?_ GW311.out _) | exact HK.out)))); have HO320 := Aside0.mk (Kd.R_lower ho1 (keep_size (w := w) (g := g) (row := none) (by repeat (first | (with_reducible first | exact HK.out | apply KeepBut.set_ | apply keep_drewN | apply keep_drew | apply keep_alloc | refine keep_far ?_ GW311.out _) | exact HK.out)))); replace BK311 := Aside0.mk (KeepBut.blk hk (g' := gb311) (o := .cells #[.slice none 0 0, .slice none 0 0] 28 (0, 0)) (Bq_ BK311) NB311_0.out (by simp)); replace HK := Aside0.mk (KeepBut.trans (by repeat (first | (with_reducible first | exact HK.out | apply KeepBut.set_ | apply keep_drewN | apply keep_drew | apply keep_alloc | refine keep_far ?_ GW311.out _) | exact HK.out)) hk (.inl rfl)); replace HI0 := Aside0.mk (hi); replace HB := Aside0.mk (hb); (try clear hb); (try clear hb2); (try clear hk); (try clear hi); (try clear ho0); (try clear ho1); obtain ⟨Ao34, co34, eo34⟩ := Kd.R_slice HO317.out; subst eo34; obtain ⟨Ao35, co35, eo35⟩ := Kd.R_slice HO320.out; subst eo35) | ((with_reducible refine gate_callee (f := 67) rfl ?_); refine goesL_ (some 9) rfl rfl Try.func67 (by kernel_rfl) rfl #[.agg #[.slice Ao34 t315.length co34, .slice Ao35 t318.length co35]] rfl Mp_ ?_; (with_reducible refine (spec_l10Copy.calls _ _ t315 _ _ t318 t323 t326 _ ?side1 ?side2 ?side3 ?side4 A4.out).mono ?_); (case side1 => exact Cq_ (Kd.R_reads' HO317.out).2.2); (case side2 => exact (Kd.R_reads' HO317.out).2.1); (case side3 => exact Cq_ (Kd.R_reads' HO320.out).2.2); (case side4 => exact (Kd.R_reads' HO320.out).2.1); rintro e w36 ⟨v324, v327, rfl, ho0, ho1, hb⟩; refine ⟨_, rfl, ?_⟩; have n0_ := Rl_ HO317 ho0 hb; have n1_ := Rl_ HO320 ho1 hb; have n2_ := Aside0.mk (Kd.R_lower (Kd.R_new' ho0 (Kd.R_lt (Rq_ HO317))) (keep_size (w := w) (g := g) (row := none) (by repeat (first | (with_reducible first | exact HK.out | apply KeepBut.set_ | apply keep_drewN | apply keep_drew | apply keep_alloc | refine keep_far ?_ GW311.out _) | exact HK.out)))); have n3_ := Aside0.mk (Kd.R_lower (Kd.R_new' ho1 (Kd.R_lt (Rq_ HO320))) (keep_size (w := w) (g := g) (row := none) (by repeat (first | (with_reducible first | exact HK.out | apply KeepBut.set_ | apply keep_drewN | apply keep_drew | apply keep_alloc | refine keep_far ?_ GW311.out _) | exact HK.out)))); have n4_ := Aside0.mk (IsS145.below (by repeat (first | (with_reducible first | exact HI0.out | apply IsS145.alloc | apply IsS145.drewN | apply IsS145.drew | apply IsS145.set_1 | apply IsS145.set_2 | refine IsS145.far ?_ (Aside0.out (by with_reducible assumption)) _ | refine IsS145.far ?_ NB0_311.out _) | exact HI0.out)) hb); have n5_ := Bb_ BK311 hb; have n6_ := Aside0.mk (KeepBut.trans (by repeat (first | (with_reducible first | exact HK.out | apply KeepBut.set_ | apply keep_drewN | apply keep_drew | apply keep_alloc | refine keep_far ?_ GW311.out _) | exact HK.out)) (KeepBut.of_below hb g none) (.inl rfl)); have n7_ := Aside0.mk (below_step (by repeat (first | (with_reducible first | exact HB.out | apply below_alloc | apply pw_below_drewN | apply below_drew1 | refine below_set ?_ (IsS145.ge HI0.out) | refine below_set ?_ GE311.out) | exact HB.out)) hb); clear HO317; clear HO320; clear HI0; clear BK311; clear HK; clear HB; have HO317 := n0_; have HO320 := n1_; have HO325 := n2_; have HO328 := n3_; have HI0 := n4_; have BK311 := n5_; have HK := n6_; have HB := n7_; clear n0_ n1_ n2_ n3_ n4_ n5_ n6_ n7_; (try clear hb); (try clear hb2); (try clear hk); (try clear hi); (try clear ho0); (try clear ho1)) | ((with_reducible refine gate_dst (N := 4) rfl ?_); refine box_event ?hg (N := 4) ?hd (cs := #[.slice none 0 0, .slice none 0 0]) (t := 28) ?hr ?_; (case hd => rfl); (case hg => rfl); (case hr => first | (go_simp; done) | (go_simp; rfl)); intro gb329 hg w37 hbox hb; have n0_ := Rb_ HO317 hb; have n1_ := Rb_ HO320 hb; have n2_ := Rb_ HO325 hb; have n3_ := Rb_ HO328 hb; have n4_ := Aside0.mk (IsS145.below (by repeat (first | (with_reducible first | exact HI0.out | apply IsS145.alloc | apply IsS145.drewN | apply IsS145.drew | apply IsS145.set_1 | apply IsS145.set_2 | refine IsS145.far ?_ (Aside0.out (by with_reducible assumption)) _ | refine IsS145.far ?_ NB0_311.out _) | exact HI0.out)) hb); have n5_ := Bb_ BK311 hb; have n6_ := Aside0.mk (KeepBut.trans (by repeat (first | (with_reducible first | exact HK.out | apply KeepBut.set_ | apply keep_drewN | apply keep_drew | apply keep_alloc | refine keep_far ?_ GW311.out _) | exact HK.out)) (KeepBut.of_below hb g none) (.inl rfl)); have n7_ := Aside0.mk (below_step (by repeat (first | (with_reducible first | exact HB.out | apply below_alloc | apply pw_below_drewN | apply below_drew1 | refine below_set ?_ (IsS145.ge HI0.out) | refine below_set ?_ GE311.out) | exact HB.out)) hb); have n8_ := Aside0.mk (hbox); have n9_ := Aside0.mk ((by rw [hg]; exact (keep_size (w := w) (g := g) (row := none) (by repeat (first | (with_reducible first | exact HK.out | apply KeepBut.set_ | apply keep_drewN | apply keep_drew | apply keep_alloc | refine keep_far ?_ GW311.out _) | exact HK.out))) : w.heap.size ≤ gb329)); have n10_ := Aside0.mk ((Nat.le_trans HW0.out (by rw [hg]; exact (keep_size (w := w) (g := g) (row := none) (by repeat (first | (with_reducible first | exact HK.out | apply KeepBut.set_ | apply keep_drewN | apply keep_drew | apply keep_alloc | refine keep_far ?_ GW311.out _) | exact HK.out))) : w.heap.size ≤ gb329) : w0.heap.size ≤ gb329)); have n11_ := Bl_ BK311 hg; have n12_ := Bm_ (Bl_ BK311 hg); have n13_ := Aside0.mk ((by rw [hg]; exact Nat.ne_of_lt (IsS145.lt (show IsS145 w0 _ g s0_0 t321 t322 from by repeat (first | (with_reducible first | exact HI0.out | apply IsS145.alloc | apply IsS145.drewN | apply IsS145.drew | apply IsS145.set_1 | apply IsS145.set_2 | refine IsS145.far ?_ (Aside0.out (by with_reducible assumption)) _ | refine IsS145.far ?_ NB0_311.out _) | exact HI0.out))) : g ≠ gb329)); have n14_ := Aside0.mk ((by rw [hg]; exact Nat.ne_of_gt (IsS145.lt (show IsS145 w0 _ g s0_0 t321 t322 from by repeat (first | (with_reducible first | exact HI0.out | apply IsS145.alloc | apply IsS145.drewN | apply IsS145.drew | apply IsS145.set_1 | apply IsS145.set_2 | refine IsS145.far ?_ (Aside0.out (by with_reducible assumption)) _ | refine IsS145.far ?_ NB0_311.out _) | exact HI0.out))) : gb329 ≠ g)); clear HO317; clear HO320; clear HO325; clear HO328; clear HI0; clear BK311; clear HK; clear HB; have HO317 := n0_; have HO320 := n1_; have HO325 := n2_; have HO328 := n3_; have HI0 := n4_; have BK311 := n5_; have HK := n6_; have HB := n7_; have BK329 := n8_; have GW329 := n9_; have GE329 := n10_; have NB311_329 := n11_; have NB329_311 := n12_; have NB0_329 := n13_; have NB329_0 := n14_; clear n0_ n1_ n2_ n3_ n4_ n5_ n6_ n7_ n8_ n9_ n10_ n11_ n12_ n13_ n14_; clear hb hbox hg; obtain ⟨Ao38, co38, eo38⟩ := Kd.R_slice HO325.out; subst eo38; have hnb39 := NB329_311.out; have hnc39 := NB311_329.out; have hnb40 := NB329_0.out; have hnc40 := NB0_329.out; obtain ⟨hcz41_0, hcz41_1, hfz41_0, hfz41_1⟩ := Bc2_ BK329; obtain ⟨Ao42, co42, eo42⟩ := Kd.R_slice HO328.out; subst eo42) | ((with_reducible refine gate_builtin (b := .append) (xs := #[.tmp 21, .tmp 22]) rfl ?_); at_builtin; refine Kd.R_append Kd.string w.heap.size rfl (.tmp 21) (.tmp 22) 22 9 (.string ⟨#[]⟩) 16 rfl Try.underlying22 info9 rfl (by decide) (by omega) (.slice Ao38 t323.length co38) t323 (⟨#[118]⟩ : ByteArray) [.string (⟨#[118]⟩ : ByteArray)] (fun k_ => some k_ ≠ (.slice Ao34 t315.length co34 : Value).ownBlock) (fun _ => False) rfl (by first | (go_simp; done) | (go_simp; rfl)) ?aP (fun _ hk => hk.elim) ?aF ?aO (Below.refl _ _) ?aS ?aL ?_; (case aP => exact rfl); (case aF => exact (fun k_ hk => Kd.fresh' (Kd.R_lt (by (with_reducible repeat (first | apply Kd.R_alloc | apply Kd.R_drewN | apply Kd.R_drew)); exact (Kd.R_mono (Kd.R_far (p := ⟨gb329, 1, none⟩) (Kd.R_far (p := ⟨gb329, 0, none⟩) (Kd.R_types HO317.out BK329.out (by decide)) (fun _ hk => hk.2) (.slice Ao38 t323.length co38)) (fun _ hk => hk.2) (.slice Ao42 t326.length co42)) (fun _ h_ => h_.1)))) k_ hk)); (case aO => exact (by (with_reducible repeat (first | apply Kd.R_alloc | apply Kd.R_drewN | apply Kd.R_drew)); exact Kd.R_mono (Kd.R_far (p := ⟨gb329, 1, none⟩) (Kd.R_far (p := ⟨gb329, 0, none⟩) (Kd.R_types HO325.out BK329.out (by decide)) (fun _ hk => hk.2) (.slice Ao38 t323.length co38)) (fun _ hk => hk.2) (.slice Ao42 t326.length co42)) (fun _ hk => hk.1.2))); (case aS => exact (keep_size (w := w) (g := g) (row := none) (by repeat (first | (with_reducible first | exact HK.out | apply KeepBut.set_ | apply keep_drewN | apply keep_drew | apply keep_alloc | refine keep_far ?_ GW311.out _ | refine keep_far ?_ GW329.out _) | exact HK.out)))); (case aL => have := LMc30.out; omega); intro v335 w43 ho hb hg hat; rw [← Ny334.out] at ho; have n0_ := Aside0.mk (IsS145.grown (IsS145.far (IsS145.far HI0.out NB0_329.out _) NB0_329.out _) hg (IsS145.own_ne HI0.out HO325.out (by decide))); have n1_ := Aside0.mk (blk_grown (g := gb311) (o := .cells #[.slice none 0 0, .slice none 0 0] 28 (0, 0)) (by (with_reducible repeat (first | refine blk_drewN ?_ _ | refine blk_drew ?_ | refine blk_alloc ?_ _)); refine blk_far ?_ NB311_329.out _; (with_reducible repeat (first | refine blk_drewN ?_ _ | refine blk_drew ?_ | refine blk_alloc ?_ _)); refine blk_far ?_ NB311_329.out _; (with_reducible repeat (first | refine blk_drewN ?_ _ | refine blk_drew ?_ | refine blk_alloc ?_ _)); exact BK311.out) hg (Kd.R_ne HO325.out BK311.out (by decide))); have n2_ := Aside0.mk (Kd.R_after (ok := (fun _ => True)) (by (with_reducible repeat (first | apply Kd.R_alloc | apply Kd.R_drewN | apply Kd.R_drew)); exact Kd.R_mono (Kd.R_far (p := ⟨gb329, 1, none⟩) (Kd.R_far (p := ⟨gb329, 0, none⟩) (Kd.R_types HO317.out BK329.out (by decide)) (fun _ hk => hk.2) (.slice Ao38 t323.length co38)) (fun _ hk => hk.2) (.slice Ao42 t326.length co42)) (fun _ hk => ⟨trivial, hk.1.2⟩)) hg hat); have n3_ := Aside0.mk (Kd.R_over' (by (with_reducible repeat (first | apply Kd.R_alloc | apply Kd.R_drewN | apply Kd.R_drew)); exact (Kd.R_mono (Kd.R_far (p := ⟨gb329, 1, none⟩) (Kd.R_far (p := ⟨gb329, 0, none⟩) (Kd.R_types HO320.out BK329.out (by decide)) (fun _ hk => hk.2) (.slice Ao38 t323.length co38)) (fun _ hk => hk.2) (.slice Ao42 t326.length co42)) (fun _ h_ => h_.1))) (Kd.R_typed (by (with_reducible repeat (first | apply Kd.R_alloc | apply Kd.R_drewN | apply Kd.R_drew)); exact (Kd.R_mono (Kd.R_far (p := ⟨gb329, 1, none⟩) (Kd.R_far (p := ⟨gb329, 0, none⟩) (Kd.R_types HO325.out BK329.out (by decide)) (fun _ hk => hk.2) (.slice Ao38 t323.length co38)) (fun _ hk => hk.2) (.slice Ao42 t326.length co42)) (fun _ h_ => h_.1)))) (by decide) hg); have n4_ := Aside0.mk (Kd.R_over' (by (with_reducible repeat (first | apply Kd.R_alloc | apply Kd.R_drewN | apply Kd.R_drew)); exact (Kd.R_mono (Kd.R_far (p := ⟨gb329, 1, none⟩) (Kd.R_far (p := ⟨gb329, 0, none⟩) (Kd.R_types HO328.out BK329.out (by decide)) (fun _ hk => hk.2) (.slice Ao38 t323.length co38)) (fun _ hk => hk.2) (.slice Ao42 t326.length co42)) (fun _ h_ => h_.1))) (Kd.R_typed (by (with_reducible repeat (first | apply Kd.R_alloc | apply Kd.R_drewN | apply Kd.R_drew)); exact (Kd.R_mono (Kd.R_far (p := ⟨gb329, 1, none⟩) (Kd.R_far (p := ⟨gb329, 0, none⟩) (Kd.R_types HO325.out BK329.out (by decide)) (fun _ hk => hk.2) (.slice Ao38 t323.length co38)) (fun _ hk => hk.2) (.slice Ao42 t326.length co42)) (fun _ h_ => h_.1)))) (by decide) hg); have n5_ := Aside0.mk (blk_grown (g := gb329) (o := .cells #[.slice Ao38 t323.length co38, .slice Ao42 t326.length co42] 28 (0, 0)) (by (with_reducible repeat (first | refine blk_drewN ?_ _ | refine blk_drew ?_ | refine blk_alloc ?_ _)); refine blk_put (cs := #[.slice Ao38 t323.length co38, .slice none 0 0]) ?_ 1 _ rfl; (with_reducible repeat (first | refine blk_drewN ?_ _ | refine blk_drew ?_ | refine blk_alloc ?_ _)); refine blk_put (cs := #[.slice none 0 0, .slice none 0 0]) ?_ 0 _ rfl; (with_reducible repeat (first | refine blk_drewN ?_ _ | refine blk_drew ?_ | refine blk_alloc ?_ _)); exact BK329.out) hg (Kd.R_ne HO325.out BK329.out (by decide))); have n6_ := Aside0.mk (below_weaken (by repeat (first | (with_reducible first | exact HB.out | apply below_alloc | apply pw_below_drewN | apply below_drew1 | refine below_set ?_ (IsS145.ge HI0.out) | refine below_set ?_ GE311.out | refine below_set ?_ GE329.out) | exact HB.out)) HL.out hb); have n7_ := Aside0.mk (KeepBut.trans (by repeat (first | (with_reducible first | exact HK.out | apply KeepBut.set_ | apply keep_drewN | apply keep_drew | apply keep_alloc | refine keep_far ?_ GW311.out _ | refine keep_far ?_ GW329.out _) | exact HK.out)) (KeepBut.of_grown hg g) (Kd.R_base2 HO325.out)); have n8_ := Aside0.mk (ho); clear HI0; clear BK311; clear HO317; clear HO320; clear HO328; clear BK329; clear HB; clear HK; clear HO325; have HI0 := n0_; have BK311 := n1_; have HO317 := n2_; have HO320 := n3_; have HO328 := n4_; have BK329 := n5_; have HB := n6_; have HK := n7_; have HO336 := n8_; clear n0_ n1_ n2_ n3_ n4_ n5_ n6_ n7_ n8_; clear ho hb hg hat; obtain ⟨Ao44, co44, eo44⟩ := Kd.R_slice HO336.out; subst eo44; obtain ⟨hcz45_0, hcz45_1, hfz45_0, hfz45_1⟩ := Bc2_ BK329; have hnb46 := NB311_0.out; have hnc46 := NB0_311.out; obtain ⟨hcz47_0, hcz47_1, hfz47_0, hfz47_1⟩ := Bc2_ BK311))
    refine bodyPost_ret (results_cell_row rfl _ _ gb311 28 #[.slice Ao44 y334.length co44, .slice Ao42 t326.length co42] (0, 0) _ rfl (by (with_reducible repeat (first | refine blk_drewN ?_ _ | refine blk_drew ?_ | refine blk_alloc ?_ _)); refine blk_put (cs := #[.slice Ao44 y334.length co44, .slice none 0 0]) ?_ 1 _ rfl; (with_reducible repeat (first | refine blk_drewN ?_ _ | refine blk_drew ?_ | refine blk_alloc ?_ _)); refine blk_put (cs := #[.slice none 0 0, .slice none 0 0]) ?_ 0 _ rfl; (with_reducible repeat (first | refine blk_drewN ?_ _ | refine blk_drew ?_ | refine blk_alloc ?_ _)); refine blk_far ?_ NB311_329.out _; (with_reducible repeat (first | refine blk_drewN ?_ _ | refine blk_drew ?_ | refine blk_alloc ?_ _)); exact BK311.out) Try.underlying28 rfl (by kernel_rfl)) rfl ?_
    exact ⟨_, _, Re_, by (with_reducible repeat (first | apply Kd.R_alloc | apply Kd.R_drewN | apply Kd.R_drew)); exact Kd.R_mono (Kd.R_far (p := ⟨gb311, 1, none⟩) (Kd.R_far (p := ⟨gb311, 0, none⟩) (Kd.R_far (p := ⟨gb329, 0, none⟩) (Kd.R_types (Kd.R_types HO336.out BK329.out (by decide)) BK311.out (by decide)) (fun _ hk => hk.1.2) (.slice Ao44 y334.length co44)) (fun _ hk => hk.2) (.slice Ao44 y334.length co44)) (fun _ hk => hk.2) (.slice Ao42 t326.length co42)) (fun _ hk => trivial), by (with_reducible repeat (first | apply Kd.R_alloc | apply Kd.R_drewN | apply Kd.R_drew)); exact Kd.R_mono (Kd.R_far (p := ⟨gb311, 1, none⟩) (Kd.R_far (p := ⟨gb311, 0, none⟩) (Kd.R_far (p := ⟨gb329, 0, none⟩) (Kd.R_types (Kd.R_types HO328.out BK329.out (by decide)) BK311.out (by decide)) (fun _ hk => hk.1.2) (.slice Ao44 y334.length co44)) (fun _ hk => hk.2) (.slice Ao44 y334.length co44)) (fun _ hk => hk.2) (.slice Ao42 t326.length co42)) (fun _ hk => trivial), by repeat (first | (with_reducible first | exact HI0.out | apply IsS145.alloc | apply IsS145.drewN | apply IsS145.drew | apply IsS145.set_1 | apply IsS145.set_2 | refine IsS145.far ?_ (Aside0.out (by with_reducible assumption)) _ | refine IsS145.far ?_ NB0_311.out _ | refine IsS145.far ?_ NB0_329.out _) | exact HI0.out), by repeat (first | (with_reducible first | exact HB.out | apply below_alloc | apply pw_below_drewN | apply below_drew1 | refine below_set ?_ (IsS145.ge HI0.out) | refine below_set ?_ GE311.out | refine below_set ?_ GE329.out) | exact HB.out), by repeat (first | (with_reducible first | exact HK.out | apply KeepBut.set_ | apply keep_drewN | apply keep_drew | apply keep_alloc | refine keep_far ?_ GW311.out _ | refine keep_far ?_ GW329.out _) | exact HK.out)⟩
   ·rw [if_neg c30] at H
    exact absurd H (by simp)
  ·rw [if_neg c29] at H
   have c29b0 : (t312 == 1) = false := beq_eq_false_iff_ne.mpr c29
   have c29b1 : (t312 != 1) = true := bne_iff_ne.mpr c29
   by_cases c48 : t312 = 2
   ·rw [if_pos c48] at H
    have c48b0 : (t312 == 2) = true := beq_iff_eq.mpr c48
    have c48b1 : (t312 != 2) = false := bne_eq_false_iff_eq.mpr c48
    clear c48
    obtain ⟨y337, hy337⟩ : ∃ y_ : List ByteArray, y_ = (([(⟨#[]⟩ : ByteArray), (⟨#[98, 101, 103, 105, 110]⟩ : ByteArray), (⟨#[110]⟩ : ByteArray)] : List ByteArray)) := ⟨_, rfl⟩
    replace H : ((spec_l01Pick.f s0_0 t321 t322 y337).bind fun bt340 => (if 0 < (t323.length : Int) then (some ((t323.set (0 : Int).toNat bt340.1), t326, bt340.2.1, bt340.2.2)) else (none))) = some (r1, r2, r3, r4) := by first | (rw [hy337]; with_reducible exact H) | (have H2_ := (Option.bind_some _ _).symm.trans H; rw [hy337]; with_reducible exact H2_) | (have H2_ := (Option.bind_some _ _).symm.trans H; with_reducible exact H2_) | with_reducible exact H | (rw [hy337]; exact H) | exact H
    have Ny337 := Aside0.mk hy337
    clear hy337
    replace H := Option.bind_eq_some_iff.mp H
    obtain ⟨⟨t340, t341, t342⟩, A490, H⟩ := H
    replace H : (if 0 < (t323.length : Int) then (some ((t323.set (0 : Int).toNat t340), t326, t341, t342)) else (none)) = some (r1, r2, r3, r4) := H
    have A49 := Aside0.mk A490
    clear A490
    by_cases c50 : 0 < (t323.length : Int)
    ·rw [if_pos c50] at H
     have c50b0 : decide (0 < (t323.length : Int)) = true := decide_eq_true c50
     have c50b1 : decide (0 < t323.length) = true := decide_eq_true (by omega)
     clear c50
     obtain ⟨y343, hy343⟩ : ∃ y_ : List ByteArray, y_ = (t323.set (0 : Int).toNat t340) := ⟨_, rfl⟩
     replace H : (some (y343, t326, t341, t342)) = some (r1, r2, r3, r4) := by first | (rw [hy343]; with_reducible exact H) | (have H2_ := (Option.bind_some _ _).symm.trans H; rw [hy343]; with_reducible exact H2_) | (have H2_ := (Option.bind_some _ _).symm.trans H; with_reducible exact H2_) | with_reducible exact H | (rw [hy343]; exact H) | exact H
     have Ny343 := Aside0.mk hy343
     clear hy343
     simp only [Option.some.injEq, Prod.mk.injEq] at H
     obtain ⟨rfl, rfl, rfl, rfl⟩ := H
     go_enter Try.func86, Try.ntmps86
     try go_wp2_with (first | ((with_reducible refine gate_dst (N := 2) rfl ?_); refine box_event ?hg (N := 2) ?hd (cs := #[.slice none 0 0, .slice none 0 0]) (t := 28) ?hr ?_; (case hd => rfl); (case hg => rfl); (case hr => first | (go_simp; done) | (go_simp; rfl)); intro gb311 hg w52 hbox hb; have n0_ := Aside0.mk (IsS145.below (by repeat (first | (with_reducible first | exact HI0.out | apply IsS145.alloc | apply IsS145.drewN | apply IsS145.drew | apply IsS145.set_1 | apply IsS145.set_2 | refine IsS145.far ?_ (Aside0.out (by with_reducible assumption)) _) | exact HI0.out)) hb); have n1_ := Aside0.mk (KeepBut.trans (by repeat (first | (with_reducible first | exact HK.out | apply KeepBut.set_ | apply keep_drewN | apply keep_drew | apply keep_alloc) | exact HK.out)) (KeepBut.of_below hb g none) (.inl rfl)); have n2_ := Aside0.mk (below_step (by repeat (first | (with_reducible first | exact HB.out | apply below_alloc | apply pw_below_drewN | apply below_drew1 | refine below_set ?_ (IsS145.ge HI0.out)) | exact HB.out)) hb); have n3_ := Aside0.mk (hbox); have n4_ := Aside0.mk ((by rw [hg]; exact (keep_size (w := w) (g := g) (row := none) (by repeat (first | (with_reducible first | exact HK.out | apply KeepBut.set_ | apply keep_drewN | apply keep_drew | apply keep_alloc) | exact HK.out))) : w.heap.size ≤ gb311)); have n5_ := Aside0.mk ((Nat.le_trans HW0.out (by rw [hg]; exact (keep_size (w := w) (g := g) (row := none) (by repeat (first | (with_reducible first | exact HK.out | apply KeepBut.set_ | apply keep_drewN | apply keep_drew | apply keep_alloc) | exact HK.out))) : w.heap.size ≤ gb311) : w0.heap.size ≤ gb311)); have n6_ := Aside0.mk ((by rw [hg]; exact Nat.ne_of_lt (IsS145.lt (show IsS145 w0 _ g s0_0 s0_1 s0_2 from by repeat (first | (with_reducible first | exact HI0.out | apply IsS145.alloc | apply IsS145.drewN | apply IsS145.drew | apply IsS145.set_1 | apply IsS145.set_2 | refine IsS145.far ?_ (Aside0.out (by with_reducible assumption)) _) | exact HI0.out))) : g ≠ gb311)); have n7_ := Aside0.mk ((by rw [hg]; exact Nat.ne_of_gt (IsS145.lt (show IsS145 w0 _ g s0_0 s0_1 s0_2 from by repeat (first | (with_reducible first | exact HI0.out | apply IsS145.alloc | apply IsS145.drewN | apply IsS145.drew | apply IsS145.set_1 | apply IsS145.set_2 | refine IsS145.far ?_ (Aside0.out (by with_reducible assumption)) _) | exact HI0.out))) : gb311 ≠ g)); clear HI0; clear HK; clear HB; have HI0 := n0_; have HK := n1_; have HB := n2_; have BK311 := n3_; have GW311 := n4_; have GE311 := n5_; have NB0_311 := n6_; have NB311_0 := n7_; clear n0_ n1_ n2_ n3_ n4_ n5_ n6_ n7_; clear hb hbox hg) | ((with_reducible refine gate_callee (f := 85) rfl ?_); refine goesL_ (some 6) rfl rfl Try.func85 (by kernel_rfl) rfl #[.pointer (some ⟨g, 0, none⟩), .int .i64 10] rfl Mp_ ?_; (with_reducible refine (spec_l01Below.calls g s0_0 s0_1 s0_2 10 t312 t313 t314 w0 _ ?side1 ?side2 A2.out).mono ?_); (case side1 => repeat (first | (with_reducible first | exact HI0.out | apply IsS145.alloc | apply IsS145.drewN | apply IsS145.drew | apply IsS145.set_1 | apply IsS145.set_2 | refine IsS145.far ?_ (Aside0.out (by with_reducible assumption)) _ | refine IsS145.far ?_ NB0_311.out _) | exact HI0.out)); (case side2 => repeat (first | (with_reducible first | exact HB.out | apply below_alloc | apply pw_below_drewN | apply below_drew1 | refine below_set ?_ (IsS145.ge HI0.out) | refine below_set ?_ GE311.out) | exact HB.out)); rintro e w53 ⟨rfl, hi, hb, hk⟩; refine ⟨_, rfl, ?_⟩; replace BK311 := Aside0.mk (KeepBut.blk hk (g' := gb311) (o := .cells #[.slice none 0 0, .slice none 0 0] 28 (0, 0)) (Bq_ BK311) NB311_0.out (by simp)); replace HK := Aside0.mk (KeepBut.trans (by repeat (first | (with_reducible first | exact HK.out | apply KeepBut.set_ | apply keep_drewN | apply keep_drew | apply keep_alloc | refine keep_far ?_ GW311.out _) | exact HK.out)) hk (.inl rfl)); replace HI0 := Aside0.mk (hi); replace HB := Aside0.mk (hb); (try clear hb); (try clear hb2); (try clear hk); (try clear hi)) | ((with_reducible refine gate_callee (f := 82) rfl ?_); refine goesL_ (some 8) rfl rfl Try.func82 (by kernel_rfl) rfl #[.pointer (some ⟨g, 0, none⟩)] rfl Mp_ ?_; (with_reducible refine (spec_l10Env.calls k g s0_0 t313 t314 t315 t318 t321 t322 w0 _ ?side1 ?side2 A3.out).mono ?_); (case side1 => repeat (first | (with_reducible first | exact HI0.out | apply IsS145.alloc | apply IsS145.drewN | apply IsS145.drew | apply IsS145.set_1 | apply IsS145.set_2 | refine IsS145.far ?_ (Aside0.out (by with_reducible assumption)) _ | refine IsS145.far ?_ NB0_311.out _) | exact HI0.out)); (case side2 => repeat (first | (with_reducible first | exact HB.out | apply below_alloc | apply pw_below_drewN | apply below_drew1 | refine below_set ?_ (IsS145.ge HI0.out) | refine below_set ?_ GE311.out) | exact HB.out)); rintro e w54 ⟨v316, v319, rfl, ho0, ho1, hi, hb, hk⟩; refine ⟨_, rfl, ?_⟩; have HO317 := Aside0.mk (Kd.R_lower ho0 (keep_size (w := w) (g := g) (row := none) (by repeat (first | (with_reducible first | exact HK.out | apply KeepBut.set_ | apply keep_drewN | apply keep_drew | apply keep_alloc | refine keep_far ?_ GW311.out _) | exact HK.out)))); have HO320 := Aside0.mk (Kd.R_lower ho1 (keep_size (w := w) (g := g) (row := none) (by repeat (first | (with_reducible first | exact HK.out | apply KeepBut.set_ | apply keep_drewN | apply keep_drew | apply keep_alloc | refine keep_far ?_ GW311.out _) | exact HK.out)))); replace BK311 := Aside0.mk (KeepBut.blk hk (g' := gb311) (o := .cells #[.slice none 0 0, .slice none 0 0] 28 (0, 0)) (Bq_ BK311) NB311_0.out (by simp)); replace HK := Aside0.mk (KeepBut.trans (by repeat (first | (with_reducible first | exact HK.out | apply KeepBut.set_ | apply keep_drewN | apply keep_drew | apply keep_alloc | refine keep_far ?_ GW311.out _) | exact HK.out)) hk (.inl rfl)); replace HI0 := Aside0.mk (hi); replace HB := Aside0.mk (hb); (try clear hb); (try clear hb2); (try clear hk); (try clear hi); (try clear ho0); (try clear ho1); obtain ⟨Ao55, co55, eo55⟩ := Kd.R_slice HO317.out; subst eo55; obtain ⟨Ao56, co56, eo56⟩ := Kd.R_slice HO320.out; subst eo56) | ((with_reducible refine gate_callee (f := 67) rfl ?_); refine goesL_ (some 9) rfl rfl Try.func67 (by kernel_rfl) rfl #[.agg #[.slice Ao55 t315.length co55, .slice Ao56 t318.length co56]] rfl Mp_ ?_; (with_reducible refine (spec_l10Copy.calls _ _ t315 _ _ t318 t323 t326 _ ?side1 ?side2 ?side3 ?side4 A4.out).mono ?_); (case side1 => exact Cq_ (Kd.R_reads' HO317.out).2.2); (case side2 => exact (Kd.R_reads' HO317.out).2.1); (case side3 => exact Cq_ (Kd.R_reads' HO320.out).2.2); (case side4 => exact (Kd.R_reads' HO320.out).2.1); rintro e w57 ⟨v324, v327, rfl, ho0, ho1, hb⟩; refine ⟨_, rfl, ?_⟩; have n0_ := Rl_ HO317 ho0 hb; have n1_ := Rl_ HO320 ho1 hb; have n2_ := Aside0.mk (Kd.R_lower (Kd.R_new' ho0 (Kd.R_lt (Rq_ HO317))) (keep_size (w := w) (g := g) (row := none) (by repeat (first | (with_reducible first | exact HK.out | apply KeepBut.set_ | apply keep_drewN | apply keep_drew | apply keep_alloc | refine keep_far ?_ GW311.out _) | exact HK.out)))); have n3_ := Aside0.mk (Kd.R_lower (Kd.R_new' ho1 (Kd.R_lt (Rq_ HO320))) (keep_size (w := w) (g := g) (row := none) (by repeat (first | (with_reducible first | exact HK.out | apply KeepBut.set_ | apply keep_drewN | apply keep_drew | apply keep_alloc | refine keep_far ?_ GW311.out _) | exact HK.out)))); have n4_ := Aside0.mk (IsS145.below (by repeat (first | (with_reducible first | exact HI0.out | apply IsS145.alloc | apply IsS145.drewN | apply IsS145.drew | apply IsS145.set_1 | apply IsS145.set_2 | refine IsS145.far ?_ (Aside0.out (by with_reducible assumption)) _ | refine IsS145.far ?_ NB0_311.out _) | exact HI0.out)) hb); have n5_ := Bb_ BK311 hb; have n6_ := Aside0.mk (KeepBut.trans (by repeat (first | (with_reducible first | exact HK.out | apply KeepBut.set_ | apply keep_drewN | apply keep_drew | apply keep_alloc | refine keep_far ?_ GW311.out _) | exact HK.out)) (KeepBut.of_below hb g none) (.inl rfl)); have n7_ := Aside0.mk (below_step (by repeat (first | (with_reducible first | exact HB.out | apply below_alloc | apply pw_below_drewN | apply below_drew1 | refine below_set ?_ (IsS145.ge HI0.out) | refine below_set ?_ GE311.out) | exact HB.out)) hb); clear HO317; clear HO320; clear HI0; clear BK311; clear HK; clear HB; have HO317 := n0_; have HO320 := n1_; have HO325 := n2_; have HO328 := n3_; have HI0 := n4_; have BK311 := n5_; have HK := n6_; have HB := n7_; clear n0_ n1_ n2_ n3_ n4_ n5_ n6_ n7_; (try clear hb); (try clear hb2); (try clear hk); (try clear hi); (try clear ho0); (try clear ho1)) | ((with_reducible refine gate_dst (N := 4) rfl ?_); refine box_event ?hg (N := 4) ?hd (cs := #[.slice none 0 0, .slice none 0 0]) (t := 28) ?hr ?_; (case hd => rfl); (case hg => rfl); (case hr => first | (go_simp; done) | (go_simp; rfl)); intro gb329 hg w58 hbox hb; have n0_ := Rb_ HO317 hb; have n1_ := Rb_ HO320 hb; have n2_ := Rb_ HO325 hb; have n3_ := Rb_ HO328 hb; have n4_ := Aside0.mk (IsS145.below (by repeat (first | (with_reducible first | exact HI0.out | apply IsS145.alloc | apply IsS145.drewN | apply IsS145.drew | apply IsS145.set_1 | apply IsS145.set_2 | refine IsS145.far ?_ (Aside0.out (by with_reducible assumption)) _ | refine IsS145.far ?_ NB0_311.out _) | exact HI0.out)) hb); have n5_ := Bb_ BK311 hb; have n6_ := Aside0.mk (KeepBut.trans (by repeat (first | (with_reducible first | exact HK.out | apply KeepBut.set_ | apply keep_drewN | apply keep_drew | apply keep_alloc | refine keep_far ?_ GW311.out _) | exact HK.out)) (KeepBut.of_below hb g none) (.inl rfl)); have n7_ := Aside0.mk (below_step (by repeat (first | (with_reducible first | exact HB.out | apply below_alloc | apply pw_below_drewN | apply below_drew1 | refine below_set ?_ (IsS145.ge HI0.out) | refine below_set ?_ GE311.out) | exact HB.out)) hb); have n8_ := Aside0.mk (hbox); have n9_ := Aside0.mk ((by rw [hg]; exact (keep_size (w := w) (g := g) (row := none) (by repeat (first | (with_reducible first | exact HK.out | apply KeepBut.set_ | apply keep_drewN | apply keep_drew | apply keep_alloc | refine keep_far ?_ GW311.out _) | exact HK.out))) : w.heap.size ≤ gb329)); have n10_ := Aside0.mk ((Nat.le_trans HW0.out (by rw [hg]; exact (keep_size (w := w) (g := g) (row := none) (by repeat (first | (with_reducible first | exact HK.out | apply KeepBut.set_ | apply keep_drewN | apply keep_drew | apply keep_alloc | refine keep_far ?_ GW311.out _) | exact HK.out))) : w.heap.size ≤ gb329) : w0.heap.size ≤ gb329)); have n11_ := Bl_ BK311 hg; have n12_ := Bm_ (Bl_ BK311 hg); have n13_ := Aside0.mk ((by rw [hg]; exact Nat.ne_of_lt (IsS145.lt (show IsS145 w0 _ g s0_0 t321 t322 from by repeat (first | (with_reducible first | exact HI0.out | apply IsS145.alloc | apply IsS145.drewN | apply IsS145.drew | apply IsS145.set_1 | apply IsS145.set_2 | refine IsS145.far ?_ (Aside0.out (by with_reducible assumption)) _ | refine IsS145.far ?_ NB0_311.out _) | exact HI0.out))) : g ≠ gb329)); have n14_ := Aside0.mk ((by rw [hg]; exact Nat.ne_of_gt (IsS145.lt (show IsS145 w0 _ g s0_0 t321 t322 from by repeat (first | (with_reducible first | exact HI0.out | apply IsS145.alloc | apply IsS145.drewN | apply IsS145.drew | apply IsS145.set_1 | apply IsS145.set_2 | refine IsS145.far ?_ (Aside0.out (by with_reducible assumption)) _ | refine IsS145.far ?_ NB0_311.out _) | exact HI0.out))) : gb329 ≠ g)); clear HO317; clear HO320; clear HO325; clear HO328; clear HI0; clear BK311; clear HK; clear HB; have HO317 := n0_; have HO320 := n1_; have HO325 := n2_; have HO328 := n3_; have HI0 := n4_; have BK311 := n5_; have HK := n6_; have HB := n7_; have BK329 := n8_; have GW329 := n9_; have GE329 := n10_; have NB311_329 := n11_; have NB329_311 := n12_; have NB0_329 := n13_; have NB329_0 := n14_; clear n0_ n1_ n2_ n3_ n4_ n5_ n6_ n7_ n8_ n9_ n10_ n11_ n12_ n13_ n14_; clear hb hbox hg; obtain ⟨Ao59, co59, eo59⟩ := Kd.R_slice HO325.out; subst eo59; have hnb60 := NB329_311.out; have hnc60 := NB311_329.out; have hnb61 := NB329_0.out; have hnc61 := NB0_329.out; obtain ⟨hcz62_0, hcz62_1, hfz62_0, hfz62_1⟩ := Bc2_ BK329; obtain ⟨Ao63, co63, eo63⟩ := Kd.R_slice HO328.out; subst eo63))
     have n0_ : Aside0 (Kd.R Kd.string 9 ((w58.setCell ⟨gb329, 0, none⟩ (.slice Ao59 t323.length co59)).setCell ⟨gb329, 1, none⟩ (.slice Ao63 t326.length co63)) w.heap.size (fun k_ => some k_ ≠ (.slice Ao59 t323.length co59 : Value).ownBlock) (.slice Ao55 t315.length co55) t315) := ⟨by (with_reducible repeat (first | apply Kd.R_alloc | apply Kd.R_drewN | apply Kd.R_drew)); exact Kd.R_mono (Kd.R_far (p := ⟨gb329, 1, none⟩) (Kd.R_far (p := ⟨gb329, 0, none⟩) (Kd.R_types HO317.out BK329.out (by decide)) (fun _ hk => hk.2) (.slice Ao59 t323.length co59)) (fun _ hk => hk.2) (.slice Ao63 t326.length co63)) (fun _ hk => hk.1.2)⟩
     have n1_ : Aside0 (Kd.R (Kd.int .i64) 3 ((w58.setCell ⟨gb329, 0, none⟩ (.slice Ao59 t323.length co59)).setCell ⟨gb329, 1, none⟩ (.slice Ao63 t326.length co63)) w.heap.size (fun k_ => some k_ ≠ (.slice Ao63 t326.length co63 : Value).ownBlock) (.slice Ao56 t318.length co56) t318) := ⟨by (with_reducible repeat (first | apply Kd.R_alloc | apply Kd.R_drewN | apply Kd.R_drew)); exact Kd.R_mono (Kd.R_far (p := ⟨gb329, 1, none⟩) (Kd.R_far (p := ⟨gb329, 0, none⟩) (Kd.R_types HO320.out BK329.out (by decide)) (fun _ hk => hk.2) (.slice Ao59 t323.length co59)) (fun _ hk => hk.2) (.slice Ao63 t326.length co63)) (fun _ hk => hk.1.2)⟩
     have n2_ : Aside0 (Kd.R Kd.string 9 ((w58.setCell ⟨gb329, 0, none⟩ (.slice Ao59 t323.length co59)).setCell ⟨gb329, 1, none⟩ (.slice Ao63 t326.length co63)) w.heap.size (fun k_ => some k_ ≠ (.slice Ao55 t315.length co55 : Value).ownBlock) (.slice Ao59 t323.length co59) t323) := ⟨by (with_reducible repeat (first | apply Kd.R_alloc | apply Kd.R_drewN | apply Kd.R_drew)); exact Kd.R_mono (Kd.R_far (p := ⟨gb329, 1, none⟩) (Kd.R_far (p := ⟨gb329, 0, none⟩) (Kd.R_types HO325.out BK329.out (by decide)) (fun _ hk => hk.2) (.slice Ao59 t323.length co59)) (fun _ hk => hk.2) (.slice Ao63 t326.length co63)) (fun _ hk => hk.1.2)⟩
     have n3_ : Aside0 (Kd.R (Kd.int .i64) 3 ((w58.setCell ⟨gb329, 0, none⟩ (.slice Ao59 t323.length co59)).setCell ⟨gb329, 1, none⟩ (.slice Ao63 t326.length co63)) w.heap.size (fun k_ => some k_ ≠ (.slice Ao56 t318.length co56 : Value).ownBlock) (.slice Ao63 t326.length co63) t326) := ⟨by (with_reducible repeat (first | apply Kd.R_alloc | apply Kd.R_drewN | apply Kd.R_drew)); exact Kd.R_mono (Kd.R_far (p := ⟨gb329, 1, none⟩) (Kd.R_far (p := ⟨gb329, 0, none⟩) (Kd.R_types HO328.out BK329.out (by decide)) (fun _ hk => hk.2) (.slice Ao59 t323.length co59)) (fun _ hk => hk.2) (.slice Ao63 t326.length co63)) (fun _ hk => hk.1.2)⟩
     have n4_ : Aside0 (((w58.setCell ⟨gb329, 0, none⟩ (.slice Ao59 t323.length co59)).setCell ⟨gb329, 1, none⟩ (.slice Ao63 t326.length co63)).heap[gb311]? = some (.cells #[.slice none 0 0, .slice none 0 0] 28 (0, 0))) := ⟨by (with_reducible repeat (first | refine blk_drewN ?_ _ | refine blk_drew ?_ | refine blk_alloc ?_ _)); refine blk_far ?_ NB311_329.out _; (with_reducible repeat (first | refine blk_drewN ?_ _ | refine blk_drew ?_ | refine blk_alloc ?_ _)); refine blk_far ?_ NB311_329.out _; (with_reducible repeat (first | refine blk_drewN ?_ _ | refine blk_drew ?_ | refine blk_alloc ?_ _)); exact BK311.out⟩
     have n5_ : Aside0 (((w58.setCell ⟨gb329, 0, none⟩ (.slice Ao59 t323.length co59)).setCell ⟨gb329, 1, none⟩ (.slice Ao63 t326.length co63)).heap[gb329]? = some (.cells #[.slice Ao59 t323.length co59, .slice Ao63 t326.length co63] 28 (0, 0))) := ⟨by (with_reducible repeat (first | refine blk_drewN ?_ _ | refine blk_drew ?_ | refine blk_alloc ?_ _)); refine blk_put (cs := #[.slice Ao59 t323.length co59, .slice none 0 0]) ?_ 1 _ rfl; (with_reducible repeat (first | refine blk_drewN ?_ _ | refine blk_drew ?_ | refine blk_alloc ?_ _)); refine blk_put (cs := #[.slice none 0 0, .slice none 0 0]) ?_ 0 _ rfl; (with_reducible repeat (first | refine blk_drewN ?_ _ | refine blk_drew ?_ | refine blk_alloc ?_ _)); exact BK329.out⟩
     have n6_ : Aside0 (IsS145 w0 ((w58.setCell ⟨gb329, 0, none⟩ (.slice Ao59 t323.length co59)).setCell ⟨gb329, 1, none⟩ (.slice Ao63 t326.length co63)) g s0_0 t321 t322) := ⟨by repeat (first | (with_reducible first | exact HI0.out | apply IsS145.alloc | apply IsS145.drewN | apply IsS145.drew | apply IsS145.set_1 | apply IsS145.set_2 | refine IsS145.far ?_ (Aside0.out (by with_reducible assumption)) _ | refine IsS145.far ?_ NB0_311.out _ | refine IsS145.far ?_ NB0_329.out _) | exact HI0.out)⟩
     have n7_ : Aside0 (KeepBut w ((w58.setCell ⟨gb329, 0, none⟩ (.slice Ao59 t323.length co59)).setCell ⟨gb329, 1, none⟩ (.slice Ao63 t326.length co63)) g none) := ⟨by repeat (first | (with_reducible first | exact HK.out | apply KeepBut.set_ | apply keep_drewN | apply keep_drew | apply keep_alloc | refine keep_far ?_ GW311.out _ | refine keep_far ?_ GW329.out _) | exact HK.out)⟩
     have n8_ : Aside0 (Below w0.heap.size w0 ((w58.setCell ⟨gb329, 0, none⟩ (.slice Ao59 t323.length co59)).setCell ⟨gb329, 1, none⟩ (.slice Ao63 t326.length co63))) := ⟨by repeat (first | (with_reducible first | exact HB.out | apply below_alloc | apply pw_below_drewN | apply below_drew1 | refine below_set ?_ (IsS145.ge HI0.out) | refine below_set ?_ GE311.out | refine below_set ?_ GE329.out) | exact HB.out)⟩
     (try clear HO317)
     (try clear HO320)
     (try clear HO325)
     (try clear HO328)
     (try clear BK311)
     (try clear BK329)
     (try clear HI0)
     (try clear HK)
     (try clear HB)
     generalize ((w58.setCell ⟨gb329, 0, none⟩ (.slice Ao59 t323.length co59)).setCell ⟨gb329, 1, none⟩ (.slice Ao63 t326.length co63)) = w64 at n0_ n1_ n2_ n3_ n4_ n5_ n6_ n7_ n8_ ⊢
     have HO317 := n0_
     have HO320 := n1_
     have HO325 := n2_
     have HO328 := n3_
     have BK311 := n4_
     have BK329 := n5_
     have HI0 := n6_
     have HK := n7_
     have HB := n8_
     clear n0_ n1_ n2_ n3_ n4_ n5_ n6_ n7_ n8_
     replace HO317 := Aside0.mk (Kd.R_drew HO317.out); replace HO320 := Aside0.mk (Kd.R_drew HO320.out); replace HO325 := Aside0.mk (Kd.R_drew HO325.out); replace HO328 := Aside0.mk (Kd.R_drew HO328.out); replace BK311 := Aside0.mk (blk_drew BK311.out); replace BK329 := Aside0.mk (blk_drew BK329.out); replace HI0 := Aside0.mk (IsS145.drew HI0.out); replace HK := Aside0.mk (keep_drew HK.out); replace HB := Aside0.mk (below_drew1 HB.out)
     refine start_ (n := 7) (S := fun w' => w'.cell? ⟨gb329, 0, none⟩ = some (.slice Ao59 t323.length co59) ∧ w'.cell? ⟨gb329, 1, none⟩ = some (.slice Ao63 t326.length co63)) (ds := [6]) #[false, false, false, false, false, false, false] (by kernel_rfl) rfl rfl ⟨(blk_cell BK329.out 0).trans rfl, (blk_cell BK329.out 1).trans rfl⟩ (fun hHeld => ?_)
     generalize w64.drew = w65 at HO317 HO320 HO325 HO328 BK311 BK329 HI0 HK HB hHeld ⊢
     refine pure_ (i := 0) (N := some 27) (v := ?_) (a' := ?_) #[true, false, false, false, false, false, false] rfl rfl (by kernel_rfl) (fun _ _ _ h => h) (Or.inl ⟨by rfl, ?_⟩) ?_ ?_
     rotate_left
     ·intro w'
      go_simp
      with_reducible rfl
     rotate_left
     ·simp only [Act.put, List.setIfInBounds_toArray, List.set_cons_zero, List.set_cons_succ, i64_w, i32_w]
      rfl
     refine pure_ (i := 2) (N := some 29) (v := ?_) (a' := ?_) #[true, false, true, false, false, false, false] rfl rfl (by kernel_rfl) (fun _ _ _ h => h) (Or.inl ⟨by rfl, ?_⟩) ?_ ?_
     rotate_left
     ·intro w'
      go_simp
      with_reducible rfl
     rotate_left
     ·simp only [Act.put, List.setIfInBounds_toArray, List.set_cons_zero, List.set_cons_succ, i64_w, i32_w]
      rfl
     refine take_ (i := 1) (N := some 28) (v := ?_) (a' := ?_) #[true, true, true, false, false, false, false] rfl rfl (by kernel_rfl) (fun _ _ _ h => h) (Or.inl ⟨by rfl, ?_⟩) hHeld ?_ ?_
     rotate_left
     ·rintro w' ⟨s0, s1⟩
      go_simp
      with_reducible rfl
     rotate_left
     ·simp only [Act.put, List.setIfInBounds_toArray, List.set_cons_zero, List.set_cons_succ, i64_w, i32_w]
      rfl
     refine one_ (i := 3) (N := some 30) #[true, true, true, true, false, false, false] rfl rfl (by kernel_rfl) (by decide) (fun K hK => ?_)
     refine Kd.R_lit_step Kd.string _ 9 ?hg (N := 30) ?hd (xs := ([(⟨#[]⟩ : ByteArray), (⟨#[98, 101, 103, 105, 110]⟩ : ByteArray), (⟨#[110]⟩ : ByteArray)] : List ByteArray)) (inner := [.string (⟨#[]⟩ : ByteArray), .string (⟨#[98, 101, 103, 105, 110]⟩ : ByteArray), .string (⟨#[110]⟩ : ByteArray)]) (ok := fun _ => True) (okp := fun _ => True) ?hr ?hp (fun _ hk => hk) trivial (Below.refl _ _) (Nat.le_refl _) (by simp) ?_; (case hd => rfl); (case hg => rfl); (case hr => first | (go_simp; done) | (go_simp; rfl)); (case hp => exact (Reps.one (show Kd.M Kd.string _ _ _ (⟨#[]⟩ : ByteArray) [.string (⟨#[]⟩ : ByteArray)] from rfl) (Reps.one (show Kd.M Kd.string _ _ _ (⟨#[98, 101, 103, 105, 110]⟩ : ByteArray) [.string (⟨#[98, 101, 103, 105, 110]⟩ : ByteArray)] from rfl) (Reps.one (show Kd.M Kd.string _ _ _ (⟨#[110]⟩ : ByteArray) [.string (⟨#[110]⟩ : ByteArray)] from rfl) (Reps.none _ _)))))
     intro v338 w66 ho67 hb hg_ hnew_
     clear hg_ hnew_
     (first | rw [← Ny337.out] at ho67 | (simp only [Int.reduceToNat] at ho67; rw [← Ny337.out] at ho67))
     have n0_ := Rl_ HO317 ho67 hb
     have n1_ := Rb_ HO320 hb
     have n2_ := Rl_ HO325 ho67 hb
     have n3_ := Rb_ HO328 hb
     have n4_ := Aside0.mk (Kd.R_lower (Kd.R_new' (Kd.R_new' ho67 (Kd.R_lt (Rq_ HO317))) (Kd.R_lt (Rq_ HO325))) (keep_size (w := w) (g := g) (row := none) (by repeat (first | (with_reducible first | exact HK.out | apply KeepBut.set_ | apply keep_drewN | apply keep_drew | apply keep_alloc | refine keep_far ?_ GW311.out _ | refine keep_far ?_ GW329.out _) | exact HK.out))))
     have n5_ := Aside0.mk (IsS145.below (by repeat (first | (with_reducible first | exact HI0.out | apply IsS145.alloc | apply IsS145.drewN | apply IsS145.drew | apply IsS145.set_1 | apply IsS145.set_2 | refine IsS145.far ?_ (Aside0.out (by with_reducible assumption)) _ | refine IsS145.far ?_ NB0_311.out _ | refine IsS145.far ?_ NB0_329.out _) | exact HI0.out)) hb)
     have n6_ := Bb_ BK311 hb
     have n7_ := Bb_ BK329 hb
     have n8_ := Aside0.mk (KeepBut.trans (by repeat (first | (with_reducible first | exact HK.out | apply KeepBut.set_ | apply keep_drewN | apply keep_drew | apply keep_alloc | refine keep_far ?_ GW311.out _ | refine keep_far ?_ GW329.out _) | exact HK.out)) (KeepBut.of_below hb g none) (.inl rfl))
     have n9_ := Aside0.mk (below_step (by repeat (first | (with_reducible first | exact HB.out | apply below_alloc | apply pw_below_drewN | apply below_drew1 | refine below_set ?_ (IsS145.ge HI0.out) | refine below_set ?_ GE311.out | refine below_set ?_ GE329.out) | exact HB.out)) hb)
     clear HO317
     clear HO320
     clear HO325
     clear HO328
     clear HI0
     clear BK311
     clear BK329
     clear HK
     clear HB
     have HO317 := n0_
     have HO320 := n1_
     have HO325 := n2_
     have HO328 := n3_
     have HO339 := n4_
     have HI0 := n5_
     have BK311 := n6_
     have BK329 := n7_
     have HK := n8_
     have HB := n9_
     clear n0_ n1_ n2_ n3_ n4_ n5_ n6_ n7_ n8_ n9_
     clear hb ho67
     obtain ⟨Ao68, co68, eo68⟩ := Kd.R_slice HO339.out
     (first | subst eo68 | (injection eo68 with f1_ f2_ f3_; have f4_ := f1_.symm; have f5_ := f3_.symm; clear f1_ f2_ f3_; subst f4_; subst f5_))
     refine hK.out _ _ ⟨(blk_cell BK329.out 0).trans rfl, (blk_cell BK329.out 1).trans rfl⟩ (fun hHeld => ?_)
     clear hK K
     refine norm_ (a' := ?_) ?_ ?_
     rotate_left
     ·show Act.put _ (some 30) _ = _
      simp only [Act.put, List.setIfInBounds_toArray, List.set_cons_zero, List.set_cons_succ, i64_w, i32_w]
      rfl
     refine one_ (i := 4) (N := some 31) #[true, true, true, true, true, false, false] rfl rfl (by kernel_rfl) (by decide) (fun K hK => ?_)
     refine goes_ Try.func87 (by kernel_rfl) rfl #[.pointer (some ⟨g, 0, none⟩), .slice Ao68 y337.length co68] (by rfl) rfl rfl Mp_ ?_
     with_reducible refine (spec_l01Pick.calls g s0_0 t321 t322 _ _ y337 t340 t341 t342 w0 _ ?side1 ?side2 ?side3 ?side4 ?side5 A49.out).mono ?_
     (case side1 => repeat (first | (with_reducible first | exact HI0.out | apply IsS145.alloc | apply IsS145.drewN | apply IsS145.drew | apply IsS145.set_1 | apply IsS145.set_2 | refine IsS145.far ?_ (Aside0.out (by with_reducible assumption)) _ | refine IsS145.far ?_ NB0_311.out _ | refine IsS145.far ?_ NB0_329.out _) | exact HI0.out))
     (case side2 => repeat (first | (with_reducible first | exact HB.out | apply below_alloc | apply pw_below_drewN | apply below_drew1 | refine below_set ?_ (IsS145.ge HI0.out) | refine below_set ?_ GE311.out | refine below_set ?_ GE329.out) | exact HB.out))
     (case side3 => exact Cq_ (Kd.R_reads' HO339.out).2.2)
     (case side4 => exact (Kd.R_reads' HO339.out).2.1)
     (case side5 => exact far_slice (IsS145.own_ne HI0.out HO339.out (by decide)))
     rintro e w69 ⟨rfl, hi, hb, hk⟩
     refine ⟨_, rfl, ?_⟩
     replace BK311 := Aside0.mk (KeepBut.blk hk (g' := gb311) (o := .cells #[.slice none 0 0, .slice none 0 0] 28 (0, 0)) (Bq_ BK311) NB311_0.out (by simp)); replace HO317 := Aside0.mk (Kd.R_mono (Kd.R_keep (IsS145.apart (show IsS145 w0 _ g s0_0 t321 t322 from by repeat (first | (with_reducible first | exact HI0.out | apply IsS145.alloc | apply IsS145.drewN | apply IsS145.drew | apply IsS145.set_1 | apply IsS145.set_2 | refine IsS145.far ?_ (Aside0.out (by with_reducible assumption)) _ | refine IsS145.far ?_ NB0_311.out _ | refine IsS145.far ?_ NB0_329.out _) | exact HI0.out)) (Rq_ HO317) (by decide)) hk (fun _ h => h.2)) (fun _ h => h.1)); replace HO320 := Aside0.mk (Kd.R_mono (Kd.R_keep (IsS145.apart (show IsS145 w0 _ g s0_0 t321 t322 from by repeat (first | (with_reducible first | exact HI0.out | apply IsS145.alloc | apply IsS145.drewN | apply IsS145.drew | apply IsS145.set_1 | apply IsS145.set_2 | refine IsS145.far ?_ (Aside0.out (by with_reducible assumption)) _ | refine IsS145.far ?_ NB0_311.out _ | refine IsS145.far ?_ NB0_329.out _) | exact HI0.out)) (Rq_ HO320) (by decide)) hk (fun _ h => h.2)) (fun _ h => h.1)); replace HO325 := Aside0.mk (Kd.R_mono (Kd.R_keep (IsS145.apart (show IsS145 w0 _ g s0_0 t321 t322 from by repeat (first | (with_reducible first | exact HI0.out | apply IsS145.alloc | apply IsS145.drewN | apply IsS145.drew | apply IsS145.set_1 | apply IsS145.set_2 | refine IsS145.far ?_ (Aside0.out (by with_reducible assumption)) _ | refine IsS145.far ?_ NB0_311.out _ | refine IsS145.far ?_ NB0_329.out _) | exact HI0.out)) (Rq_ HO325) (by decide)) hk (fun _ h => h.2)) (fun _ h => h.1)); replace HO328 := Aside0.mk (Kd.R_mono (Kd.R_keep (IsS145.apart (show IsS145 w0 _ g s0_0 t321 t322 from by repeat (first | (with_reducible first | exact HI0.out | apply IsS145.alloc | apply IsS145.drewN | apply IsS145.drew | apply IsS145.set_1 | apply IsS145.set_2 | refine IsS145.far ?_ (Aside0.out (by with_reducible assumption)) _ | refine IsS145.far ?_ NB0_311.out _ | refine IsS145.far ?_ NB0_329.out _) | exact HI0.out)) (Rq_ HO328) (by decide)) hk (fun _ h => h.2)) (fun _ h => h.1)); replace BK329 := Aside0.mk (KeepBut.blk hk (g' := gb329) (o := .cells #[.slice Ao59 t323.length co59, .slice Ao63 t326.length co63] 28 (0, 0)) (Bq_ BK329) NB329_0.out (by simp)); replace HO339 := Aside0.mk (Kd.R_mono (Kd.R_keep (IsS145.apart (show IsS145 w0 _ g s0_0 t321 t322 from by repeat (first | (with_reducible first | exact HI0.out | apply IsS145.alloc | apply IsS145.drewN | apply IsS145.drew | apply IsS145.set_1 | apply IsS145.set_2 | refine IsS145.far ?_ (Aside0.out (by with_reducible assumption)) _ | refine IsS145.far ?_ NB0_311.out _ | refine IsS145.far ?_ NB0_329.out _) | exact HI0.out)) (Rq_ HO339) (by decide)) hk (fun _ h => h.2)) (fun _ h => h.1)); replace HK := Aside0.mk (KeepBut.trans (by repeat (first | (with_reducible first | exact HK.out | apply KeepBut.set_ | apply keep_drewN | apply keep_drew | apply keep_alloc | refine keep_far ?_ GW311.out _ | refine keep_far ?_ GW329.out _) | exact HK.out)) hk (.inl rfl)); replace HI0 := Aside0.mk (hi); replace HB := Aside0.mk (hb)
     (try clear hb)
     (try clear hb2)
     (try clear hk)
     (try clear hi)
     have p51 : 0 ≤ (0 : Int) := (by omega)
     have q51 : (0 : Int) < ((t323.length : Int) : Int) := of_decide_eq_true As_
     have qi51 : (0 < t323.length) = True := eq_true (by omega)
     obtain ⟨go51, co51, eo51, gb51, gl51, cl51, HG51⟩ := Kd.R_form HO325.out (by omega)
     (first | cases eo51 | (injection eo51 with ea_ en_ ec_; (first | subst ea_ | (injection ea_ with ea_; subst ea_)); subst ec_; clear en_))
     have GB51 := Aside0.mk gb51
     have GG51 := Aside0.mk HG51
     clear gb51 gl51 HG51
     obtain ⟨hx51_0, hf51_0⟩ := Kd.R_celln (⟨#[]⟩ : ByteArray) HO325.out (0 : Int) p51 q51
     (try rw [show ((0 : Int)).toNat = 0 from rfl] at hx51_0)
     (try simp only [Nat.reduceMul, Nat.zero_mul, Nat.zero_add, Nat.reduceAdd] at hx51_0)
     (try rw [show ((0 : Int)).toNat = 0 from rfl] at hf51_0)
     (try simp only [Nat.reduceMul, Nat.zero_mul, Nat.zero_add, Nat.reduceAdd] at hf51_0)
     replace p51 := eq_true p51
     replace q51 := eq_true q51
     have HN0_go51 := Aside0.mk (show g ≠ go51 from by have h_ := IsS145.own_ne HI0.out HO325.out (by decide); intro e_; exact h_ (by rw [e_]; rfl))
     have HP70 := Kd.R_putn HO325.out (0 : Int) t340
     rw [← Ny343.out] at HP70
     have HQ70 := Aside0.mk HP70
     clear HP70
     refine hK.out _ _ ⟨(blk_cell BK329.out 0).trans rfl, (blk_cell BK329.out 1).trans rfl⟩ (fun hHeld => ?_)
     clear hK K
     refine norm_ (a' := ?_) ?_ ?_
     rotate_left
     ·show Act.put _ (some 31) _ = _
      simp only [Act.put, List.setIfInBounds_toArray, List.set_cons_zero, List.set_cons_succ, i64_w, i32_w]
      rfl
     refine pure_ (i := 5) (N := some 32) (v := ?_) (a' := ?_) #[true, true, true, true, true, true, false] rfl rfl (by kernel_rfl) (fun _ _ _ h => h) (Or.inl ⟨by rfl, ?_⟩) ?_ ?_
     rotate_left
     ·intro w'
      go_simp
      with_reducible rfl
     rotate_left
     ·simp only [Act.put, List.setIfInBounds_toArray, List.set_cons_zero, List.set_cons_succ, i64_w, i32_w]
      rfl
     refine last_ (i := 6) (N := none) #[true, true, true, true, true, true, true] rfl rfl (by kernel_rfl) (by decide) (fun K hK => ?_)
     refine skip_ (w1 := ?_) (by rfl) rfl ?_ ?_
     rotate_left
     ·go_simp
      rfl
     refine hK.out _ _ ?_
     clear hK K
     refine done_ (by kernel_rfl) ?_
     have n0_ : Aside0 (Kd.R Kd.string 9 (w69.setCell ⟨go51, 0, none⟩ (.string t340)) w.heap.size (fun k_ => some k_ ≠ (.slice (some ⟨go51, 0, none⟩) t323.length co59 : Value).ownBlock ∧ some k_ ≠ (.slice Ao68 y337.length co68 : Value).ownBlock) (.slice Ao55 t315.length co55) t315) := ⟨by (with_reducible repeat (first | apply Kd.R_alloc | apply Kd.R_drewN | apply Kd.R_drew)); exact Kd.R_mono (Kd.R_far (p := ⟨go51, 0, none⟩) (Kd.R_mono HO317.out (fun k_ hk => (⟨hk, fun e_ => hk.1 (by rw [e_]; rfl)⟩ : _ ∧ k_ ≠ go51))) (fun _ hk => hk.2) (.string t340)) (fun _ hk => ⟨hk.1.1, hk.1.2⟩)⟩
     have n1_ : Aside0 (Kd.R (Kd.int .i64) 3 (w69.setCell ⟨go51, 0, none⟩ (.string t340)) w.heap.size (fun k_ => some k_ ≠ (.slice Ao63 t326.length co63 : Value).ownBlock) (.slice Ao56 t318.length co56) t318) := ⟨by (with_reducible repeat (first | apply Kd.R_alloc | apply Kd.R_drewN | apply Kd.R_drew)); exact Kd.R_mono (Kd.R_far (p := ⟨go51, 0, none⟩) (Kd.R_types HO320.out GG51.out (by decide)) (fun _ hk => hk.2) (.string t340)) (fun _ hk => hk.1)⟩
     have n2_ : Aside0 (Kd.R Kd.string 9 (w69.setCell ⟨go51, 0, none⟩ (.string t340)) w.heap.size (fun k_ => some k_ ≠ (.slice Ao55 t315.length co55 : Value).ownBlock ∧ some k_ ≠ (.slice Ao68 y337.length co68 : Value).ownBlock) (.slice (some ⟨go51, 0, none⟩) t323.length co59) y343) := ⟨by (with_reducible repeat (first | apply Kd.R_alloc | apply Kd.R_drewN | apply Kd.R_drew)); exact HQ70.out⟩
     have n3_ : Aside0 (Kd.R (Kd.int .i64) 3 (w69.setCell ⟨go51, 0, none⟩ (.string t340)) w.heap.size (fun k_ => some k_ ≠ (.slice Ao56 t318.length co56 : Value).ownBlock) (.slice Ao63 t326.length co63) t326) := ⟨by (with_reducible repeat (first | apply Kd.R_alloc | apply Kd.R_drewN | apply Kd.R_drew)); exact Kd.R_mono (Kd.R_far (p := ⟨go51, 0, none⟩) (Kd.R_types HO328.out GG51.out (by decide)) (fun _ hk => hk.2) (.string t340)) (fun _ hk => hk.1)⟩
     have n4_ : Aside0 (Kd.R Kd.string 9 (w69.setCell ⟨go51, 0, none⟩ (.string t340)) w.heap.size (fun k_ => some k_ ≠ (.slice Ao55 t315.length co55 : Value).ownBlock ∧ some k_ ≠ (.slice (some ⟨go51, 0, none⟩) t323.length co59 : Value).ownBlock) (.slice Ao68 y337.length co68) y337) := ⟨by (with_reducible repeat (first | apply Kd.R_alloc | apply Kd.R_drewN | apply Kd.R_drew)); exact Kd.R_mono (Kd.R_far (p := ⟨go51, 0, none⟩) (Kd.R_mono HO339.out (fun k_ hk => (⟨hk, fun e_ => hk.2 (by rw [e_]; rfl)⟩ : _ ∧ k_ ≠ go51))) (fun _ hk => hk.2) (.string t340)) (fun _ hk => ⟨hk.1.1.2, hk.1.2⟩)⟩
     have n5_ : Aside0 ((w69.setCell ⟨go51, 0, none⟩ (.string t340)).heap[gb311]? = some (.cells #[.slice none 0 0, .slice none 0 0] 28 (0, 0))) := ⟨by (with_reducible repeat (first | refine blk_drewN ?_ _ | refine blk_drew ?_ | refine blk_alloc ?_ _)); refine blk_far ?_ (by have h_ := Kd.R_ne HO325.out BK311.out (by decide); intro e_; exact h_ (by rw [e_]; rfl)) _; (with_reducible repeat (first | refine blk_drewN ?_ _ | refine blk_drew ?_ | refine blk_alloc ?_ _)); exact BK311.out⟩
     have n6_ : Aside0 ((w69.setCell ⟨go51, 0, none⟩ (.string t340)).heap[gb329]? = some (.cells #[.slice (some ⟨go51, 0, none⟩) t323.length co59, .slice Ao63 t326.length co63] 28 (0, 0))) := ⟨by (with_reducible repeat (first | refine blk_drewN ?_ _ | refine blk_drew ?_ | refine blk_alloc ?_ _)); refine blk_far ?_ (by have h_ := Kd.R_ne HO325.out BK329.out (by decide); intro e_; exact h_ (by rw [e_]; rfl)) _; (with_reducible repeat (first | refine blk_drewN ?_ _ | refine blk_drew ?_ | refine blk_alloc ?_ _)); exact BK329.out⟩
     have n7_ : Aside0 (IsS145 w0 (w69.setCell ⟨go51, 0, none⟩ (.string t340)) g s0_0 t341 t342) := ⟨by repeat (first | (with_reducible first | exact HI0.out | apply IsS145.alloc | apply IsS145.drewN | apply IsS145.drew | apply IsS145.set_1 | apply IsS145.set_2 | refine IsS145.far ?_ (Aside0.out (by with_reducible assumption)) _ | refine IsS145.far ?_ HN0_go51.out _ | refine IsS145.far ?_ NB0_311.out _ | refine IsS145.far ?_ NB0_329.out _) | exact HI0.out)⟩
     have n8_ : Aside0 (KeepBut w (w69.setCell ⟨go51, 0, none⟩ (.string t340)) g none) := ⟨by repeat (first | (with_reducible first | exact HK.out | apply KeepBut.set_ | apply keep_drewN | apply keep_drew | apply keep_alloc | refine keep_far ?_ GB51.out _ | refine keep_far ?_ GW311.out _ | refine keep_far ?_ GW329.out _) | exact HK.out)⟩
     have n9_ : Aside0 (Below w0.heap.size w0 (w69.setCell ⟨go51, 0, none⟩ (.string t340))) := ⟨by repeat (first | (with_reducible first | exact HB.out | apply below_alloc | apply pw_below_drewN | apply below_drew1 | refine below_set ?_ (Nat.le_trans HL.out GB51.out) | refine below_set ?_ (IsS145.ge HI0.out) | refine below_set ?_ GE311.out | refine below_set ?_ GE329.out) | exact HB.out)⟩
     (try clear HO317)
     (try clear HO320)
     (try clear HO325)
     (try clear HO328)
     (try clear HO339)
     (try clear BK311)
     (try clear BK329)
     (try clear HI0)
     (try clear HK)
     (try clear HB)
     generalize (w69.setCell ⟨go51, 0, none⟩ (.string t340)) = w71 at n0_ n1_ n2_ n3_ n4_ n5_ n6_ n7_ n8_ n9_ ⊢
     have HO317 := n0_
     have HO320 := n1_
     have HO325 := n2_
     have HO328 := n3_
     have HO339 := n4_
     have BK311 := n5_
     have BK329 := n6_
     have HI0 := n7_
     have HK := n8_
     have HB := n9_
     clear n0_ n1_ n2_ n3_ n4_ n5_ n6_ n7_ n8_ n9_
     obtain ⟨hcz72_0, hcz72_1, hfz72_0, hfz72_1⟩ := Bc2_ BK329
     have hnb73 := NB311_0.out
     have hnc73 := NB0_311.out
     obtain ⟨hcz74_0, hcz74_1, hfz74_0, hfz74_1⟩ := Bc2_ BK311
     try go_wp2
     refine bodyPost_ret (results_cell_row rfl _ _ gb311 28 #[.slice (some ⟨go51, 0, none⟩) t323.length co59, .slice Ao63 t326.length co63] (0, 0) _ rfl (by (with_reducible repeat (first | refine blk_drewN ?_ _ | refine blk_drew ?_ | refine blk_alloc ?_ _)); refine blk_put (cs := #[.slice (some ⟨go51, 0, none⟩) t323.length co59, .slice none 0 0]) ?_ 1 _ rfl; (with_reducible repeat (first | refine blk_drewN ?_ _ | refine blk_drew ?_ | refine blk_alloc ?_ _)); refine blk_put (cs := #[.slice none 0 0, .slice none 0 0]) ?_ 0 _ rfl; (with_reducible repeat (first | refine blk_drewN ?_ _ | refine blk_drew ?_ | refine blk_alloc ?_ _)); exact BK311.out) Try.underlying28 rfl (by kernel_rfl)) rfl ?_
     exact ⟨_, _, Re_, by (with_reducible repeat (first | apply Kd.R_alloc | apply Kd.R_drewN | apply Kd.R_drew)); exact Kd.R_mono (Kd.R_far (p := ⟨gb311, 1, none⟩) (Kd.R_far (p := ⟨gb311, 0, none⟩) (Kd.R_types HO325.out BK311.out (by decide)) (fun _ hk => hk.2) (.slice (some ⟨go51, 0, none⟩) t323.length co59)) (fun _ hk => hk.2) (.slice Ao63 t326.length co63)) (fun _ hk => trivial), by (with_reducible repeat (first | apply Kd.R_alloc | apply Kd.R_drewN | apply Kd.R_drew)); exact Kd.R_mono (Kd.R_far (p := ⟨gb311, 1, none⟩) (Kd.R_far (p := ⟨gb311, 0, none⟩) (Kd.R_types HO328.out BK311.out (by decide)) (fun _ hk => hk.2) (.slice (some ⟨go51, 0, none⟩) t323.length co59)) (fun _ hk => hk.2) (.slice Ao63 t326.length co63)) (fun _ hk => trivial), by repeat (first | (with_reducible first | exact HI0.out | apply IsS145.alloc | apply IsS145.drewN | apply IsS145.drew | apply IsS145.set_1 | apply IsS145.set_2 | refine IsS145.far ?_ (Aside0.out (by with_reducible assumption)) _ | refine IsS145.far ?_ NB0_311.out _ | refine IsS145.far ?_ NB0_329.out _) | exact HI0.out), by repeat (first | (with_reducible first | exact HB.out | apply below_alloc | apply pw_below_drewN | apply below_drew1 | refine below_set ?_ (IsS145.ge HI0.out) | refine below_set ?_ GE311.out | refine below_set ?_ GE329.out) | exact HB.out), by repeat (first | (with_reducible first | exact HK.out | apply KeepBut.set_ | apply keep_drewN | apply keep_drew | apply keep_alloc | refine keep_far ?_ GW311.out _ | refine keep_far ?_ GW329.out _) | exact HK.out)⟩
    ·rw [if_neg c50] at H
     exact absurd H (by simp)
   ·rw [if_neg c48] at H
    have c48b0 : (t312 == 2) = false := beq_eq_false_iff_ne.mpr c48
    have c48b1 : (t312 != 2) = true := bne_iff_ne.mpr c48
    simp only [Option.some.injEq, Prod.mk.injEq] at H
    obtain ⟨rfl, rfl, rfl, rfl⟩ := H
    go_enter Try.func86, Try.ntmps86
    go_wp2_with (first | ((with_reducible refine gate_dst (N := 2) rfl ?_); refine box_event ?hg (N := 2) ?hd (cs := #[.slice none 0 0, .slice none 0 0]) (t := 28) ?hr ?_; (case hd => rfl); (case hg => rfl); (case hr => first | (go_simp; done) | (go_simp; rfl)); intro gb311 hg w75 hbox hb; have n0_ := Aside0.mk (IsS145.below (by repeat (first | (with_reducible first | exact HI0.out | apply IsS145.alloc | apply IsS145.drewN | apply IsS145.drew | apply IsS145.set_1 | apply IsS145.set_2 | refine IsS145.far ?_ (Aside0.out (by with_reducible assumption)) _) | exact HI0.out)) hb); have n1_ := Aside0.mk (KeepBut.trans (by repeat (first | (with_reducible first | exact HK.out | apply KeepBut.set_ | apply keep_drewN | apply keep_drew | apply keep_alloc) | exact HK.out)) (KeepBut.of_below hb g none) (.inl rfl)); have n2_ := Aside0.mk (below_step (by repeat (first | (with_reducible first | exact HB.out | apply below_alloc | apply pw_below_drewN | apply below_drew1 | refine below_set ?_ (IsS145.ge HI0.out)) | exact HB.out)) hb); have n3_ := Aside0.mk (hbox); have n4_ := Aside0.mk ((by rw [hg]; exact (keep_size (w := w) (g := g) (row := none) (by repeat (first | (with_reducible first | exact HK.out | apply KeepBut.set_ | apply keep_drewN | apply keep_drew | apply keep_alloc) | exact HK.out))) : w.heap.size ≤ gb311)); have n5_ := Aside0.mk ((Nat.le_trans HW0.out (by rw [hg]; exact (keep_size (w := w) (g := g) (row := none) (by repeat (first | (with_reducible first | exact HK.out | apply KeepBut.set_ | apply keep_drewN | apply keep_drew | apply keep_alloc) | exact HK.out))) : w.heap.size ≤ gb311) : w0.heap.size ≤ gb311)); have n6_ := Aside0.mk ((by rw [hg]; exact Nat.ne_of_lt (IsS145.lt (show IsS145 w0 _ g s0_0 s0_1 s0_2 from by repeat (first | (with_reducible first | exact HI0.out | apply IsS145.alloc | apply IsS145.drewN | apply IsS145.drew | apply IsS145.set_1 | apply IsS145.set_2 | refine IsS145.far ?_ (Aside0.out (by with_reducible assumption)) _) | exact HI0.out))) : g ≠ gb311)); have n7_ := Aside0.mk ((by rw [hg]; exact Nat.ne_of_gt (IsS145.lt (show IsS145 w0 _ g s0_0 s0_1 s0_2 from by repeat (first | (with_reducible first | exact HI0.out | apply IsS145.alloc | apply IsS145.drewN | apply IsS145.drew | apply IsS145.set_1 | apply IsS145.set_2 | refine IsS145.far ?_ (Aside0.out (by with_reducible assumption)) _) | exact HI0.out))) : gb311 ≠ g)); clear HI0; clear HK; clear HB; have HI0 := n0_; have HK := n1_; have HB := n2_; have BK311 := n3_; have GW311 := n4_; have GE311 := n5_; have NB0_311 := n6_; have NB311_0 := n7_; clear n0_ n1_ n2_ n3_ n4_ n5_ n6_ n7_; clear hb hbox hg) | ((with_reducible refine gate_callee (f := 85) rfl ?_); refine goesL_ (some 6) rfl rfl Try.func85 (by kernel_rfl) rfl #[.pointer (some ⟨g, 0, none⟩), .int .i64 10] rfl Mp_ ?_; (with_reducible refine (spec_l01Below.calls g s0_0 s0_1 s0_2 10 t312 t313 t314 w0 _ ?side1 ?side2 A2.out).mono ?_); (case side1 => repeat (first | (with_reducible first | exact HI0.out | apply IsS145.alloc | apply IsS145.drewN | apply IsS145.drew | apply IsS145.set_1 | apply IsS145.set_2 | refine IsS145.far ?_ (Aside0.out (by with_reducible assumption)) _ | refine IsS145.far ?_ NB0_311.out _) | exact HI0.out)); (case side2 => repeat (first | (with_reducible first | exact HB.out | apply below_alloc | apply pw_below_drewN | apply below_drew1 | refine below_set ?_ (IsS145.ge HI0.out) | refine below_set ?_ GE311.out) | exact HB.out)); rintro e w76 ⟨rfl, hi, hb, hk⟩; refine ⟨_, rfl, ?_⟩; replace BK311 := Aside0.mk (KeepBut.blk hk (g' := gb311) (o := .cells #[.slice none 0 0, .slice none 0 0] 28 (0, 0)) (Bq_ BK311) NB311_0.out (by simp)); replace HK := Aside0.mk (KeepBut.trans (by repeat (first | (with_reducible first | exact HK.out | apply KeepBut.set_ | apply keep_drewN | apply keep_drew | apply keep_alloc | refine keep_far ?_ GW311.out _) | exact HK.out)) hk (.inl rfl)); replace HI0 := Aside0.mk (hi); replace HB := Aside0.mk (hb); (try clear hb); (try clear hb2); (try clear hk); (try clear hi)) | ((with_reducible refine gate_callee (f := 82) rfl ?_); refine goesL_ (some 8) rfl rfl Try.func82 (by kernel_rfl) rfl #[.pointer (some ⟨g, 0, none⟩)] rfl Mp_ ?_; (with_reducible refine (spec_l10Env.calls k g s0_0 t313 t314 t315 t318 t321 t322 w0 _ ?side1 ?side2 A3.out).mono ?_); (case side1 => repeat (first | (with_reducible first | exact HI0.out | apply IsS145.alloc | apply IsS145.drewN | apply IsS145.drew | apply IsS145.set_1 | apply IsS145.set_2 | refine IsS145.far ?_ (Aside0.out (by with_reducible assumption)) _ | refine IsS145.far ?_ NB0_311.out _) | exact HI0.out)); (case side2 => repeat (first | (with_reducible first | exact HB.out | apply below_alloc | apply pw_below_drewN | apply below_drew1 | refine below_set ?_ (IsS145.ge HI0.out) | refine below_set ?_ GE311.out) | exact HB.out)); rintro e w77 ⟨v316, v319, rfl, ho0, ho1, hi, hb, hk⟩; refine ⟨_, rfl, ?_⟩; have HO317 := Aside0.mk (Kd.R_lower ho0 (keep_size (w := w) (g := g) (row := none) (by repeat (first | (with_reducible first | exact HK.out | apply KeepBut.set_ | apply keep_drewN | apply keep_drew | apply keep_alloc | refine keep_far ?_ GW311.out _) | exact HK.out)))); have HO320 := Aside0.mk (Kd.R_lower ho1 (keep_size (w := w) (g := g) (row := none) (by repeat (first | (with_reducible first | exact HK.out | apply KeepBut.set_ | apply keep_drewN | apply keep_drew | apply keep_alloc | refine keep_far ?_ GW311.out _) | exact HK.out)))); replace BK311 := Aside0.mk (KeepBut.blk hk (g' := gb311) (o := .cells #[.slice none 0 0, .slice none 0 0] 28 (0, 0)) (Bq_ BK311) NB311_0.out (by simp)); replace HK := Aside0.mk (KeepBut.trans (by repeat (first | (with_reducible first | exact HK.out | apply KeepBut.set_ | apply keep_drewN | apply keep_drew | apply keep_alloc | refine keep_far ?_ GW311.out _) | exact HK.out)) hk (.inl rfl)); replace HI0 := Aside0.mk (hi); replace HB := Aside0.mk (hb); (try clear hb); (try clear hb2); (try clear hk); (try clear hi); (try clear ho0); (try clear ho1); obtain ⟨Ao78, co78, eo78⟩ := Kd.R_slice HO317.out; subst eo78; obtain ⟨Ao79, co79, eo79⟩ := Kd.R_slice HO320.out; subst eo79) | ((with_reducible refine gate_callee (f := 67) rfl ?_); refine goesL_ (some 9) rfl rfl Try.func67 (by kernel_rfl) rfl #[.agg #[.slice Ao78 t315.length co78, .slice Ao79 t318.length co79]] rfl Mp_ ?_; (with_reducible refine (spec_l10Copy.calls _ _ t315 _ _ t318 t323 t326 _ ?side1 ?side2 ?side3 ?side4 A4.out).mono ?_); (case side1 => exact Cq_ (Kd.R_reads' HO317.out).2.2); (case side2 => exact (Kd.R_reads' HO317.out).2.1); (case side3 => exact Cq_ (Kd.R_reads' HO320.out).2.2); (case side4 => exact (Kd.R_reads' HO320.out).2.1); rintro e w80 ⟨v324, v327, rfl, ho0, ho1, hb⟩; refine ⟨_, rfl, ?_⟩; have n0_ := Rl_ HO317 ho0 hb; have n1_ := Rl_ HO320 ho1 hb; have n2_ := Aside0.mk (Kd.R_lower (Kd.R_new' ho0 (Kd.R_lt (Rq_ HO317))) (keep_size (w := w) (g := g) (row := none) (by repeat (first | (with_reducible first | exact HK.out | apply KeepBut.set_ | apply keep_drewN | apply keep_drew | apply keep_alloc | refine keep_far ?_ GW311.out _) | exact HK.out)))); have n3_ := Aside0.mk (Kd.R_lower (Kd.R_new' ho1 (Kd.R_lt (Rq_ HO320))) (keep_size (w := w) (g := g) (row := none) (by repeat (first | (with_reducible first | exact HK.out | apply KeepBut.set_ | apply keep_drewN | apply keep_drew | apply keep_alloc | refine keep_far ?_ GW311.out _) | exact HK.out)))); have n4_ := Aside0.mk (IsS145.below (by repeat (first | (with_reducible first | exact HI0.out | apply IsS145.alloc | apply IsS145.drewN | apply IsS145.drew | apply IsS145.set_1 | apply IsS145.set_2 | refine IsS145.far ?_ (Aside0.out (by with_reducible assumption)) _ | refine IsS145.far ?_ NB0_311.out _) | exact HI0.out)) hb); have n5_ := Bb_ BK311 hb; have n6_ := Aside0.mk (KeepBut.trans (by repeat (first | (with_reducible first | exact HK.out | apply KeepBut.set_ | apply keep_drewN | apply keep_drew | apply keep_alloc | refine keep_far ?_ GW311.out _) | exact HK.out)) (KeepBut.of_below hb g none) (.inl rfl)); have n7_ := Aside0.mk (below_step (by repeat (first | (with_reducible first | exact HB.out | apply below_alloc | apply pw_below_drewN | apply below_drew1 | refine below_set ?_ (IsS145.ge HI0.out) | refine below_set ?_ GE311.out) | exact HB.out)) hb); clear HO317; clear HO320; clear HI0; clear BK311; clear HK; clear HB; have HO317 := n0_; have HO320 := n1_; have HO325 := n2_; have HO328 := n3_; have HI0 := n4_; have BK311 := n5_; have HK := n6_; have HB := n7_; clear n0_ n1_ n2_ n3_ n4_ n5_ n6_ n7_; (try clear hb); (try clear hb2); (try clear hk); (try clear hi); (try clear ho0); (try clear ho1)) | ((with_reducible refine gate_dst (N := 4) rfl ?_); refine box_event ?hg (N := 4) ?hd (cs := #[.slice none 0 0, .slice none 0 0]) (t := 28) ?hr ?_; (case hd => rfl); (case hg => rfl); (case hr => first | (go_simp; done) | (go_simp; rfl)); intro gb329 hg w81 hbox hb; have n0_ := Rb_ HO317 hb; have n1_ := Rb_ HO320 hb; have n2_ := Rb_ HO325 hb; have n3_ := Rb_ HO328 hb; have n4_ := Aside0.mk (IsS145.below (by repeat (first | (with_reducible first | exact HI0.out | apply IsS145.alloc | apply IsS145.drewN | apply IsS145.drew | apply IsS145.set_1 | apply IsS145.set_2 | refine IsS145.far ?_ (Aside0.out (by with_reducible assumption)) _ | refine IsS145.far ?_ NB0_311.out _) | exact HI0.out)) hb); have n5_ := Bb_ BK311 hb; have n6_ := Aside0.mk (KeepBut.trans (by repeat (first | (with_reducible first | exact HK.out | apply KeepBut.set_ | apply keep_drewN | apply keep_drew | apply keep_alloc | refine keep_far ?_ GW311.out _) | exact HK.out)) (KeepBut.of_below hb g none) (.inl rfl)); have n7_ := Aside0.mk (below_step (by repeat (first | (with_reducible first | exact HB.out | apply below_alloc | apply pw_below_drewN | apply below_drew1 | refine below_set ?_ (IsS145.ge HI0.out) | refine below_set ?_ GE311.out) | exact HB.out)) hb); have n8_ := Aside0.mk (hbox); have n9_ := Aside0.mk ((by rw [hg]; exact (keep_size (w := w) (g := g) (row := none) (by repeat (first | (with_reducible first | exact HK.out | apply KeepBut.set_ | apply keep_drewN | apply keep_drew | apply keep_alloc | refine keep_far ?_ GW311.out _) | exact HK.out))) : w.heap.size ≤ gb329)); have n10_ := Aside0.mk ((Nat.le_trans HW0.out (by rw [hg]; exact (keep_size (w := w) (g := g) (row := none) (by repeat (first | (with_reducible first | exact HK.out | apply KeepBut.set_ | apply keep_drewN | apply keep_drew | apply keep_alloc | refine keep_far ?_ GW311.out _) | exact HK.out))) : w.heap.size ≤ gb329) : w0.heap.size ≤ gb329)); have n11_ := Bl_ BK311 hg; have n12_ := Bm_ (Bl_ BK311 hg); have n13_ := Aside0.mk ((by rw [hg]; exact Nat.ne_of_lt (IsS145.lt (show IsS145 w0 _ g s0_0 t321 t322 from by repeat (first | (with_reducible first | exact HI0.out | apply IsS145.alloc | apply IsS145.drewN | apply IsS145.drew | apply IsS145.set_1 | apply IsS145.set_2 | refine IsS145.far ?_ (Aside0.out (by with_reducible assumption)) _ | refine IsS145.far ?_ NB0_311.out _) | exact HI0.out))) : g ≠ gb329)); have n14_ := Aside0.mk ((by rw [hg]; exact Nat.ne_of_gt (IsS145.lt (show IsS145 w0 _ g s0_0 t321 t322 from by repeat (first | (with_reducible first | exact HI0.out | apply IsS145.alloc | apply IsS145.drewN | apply IsS145.drew | apply IsS145.set_1 | apply IsS145.set_2 | refine IsS145.far ?_ (Aside0.out (by with_reducible assumption)) _ | refine IsS145.far ?_ NB0_311.out _) | exact HI0.out))) : gb329 ≠ g)); clear HO317; clear HO320; clear HO325; clear HO328; clear HI0; clear BK311; clear HK; clear HB; have HO317 := n0_; have HO320 := n1_; have HO325 := n2_; have HO328 := n3_; have HI0 := n4_; have BK311 := n5_; have HK := n6_; have HB := n7_; have BK329 := n8_; have GW329 := n9_; have GE329 := n10_; have NB311_329 := n11_; have NB329_311 := n12_; have NB0_329 := n13_; have NB329_0 := n14_; clear n0_ n1_ n2_ n3_ n4_ n5_ n6_ n7_ n8_ n9_ n10_ n11_ n12_ n13_ n14_; clear hb hbox hg; obtain ⟨Ao82, co82, eo82⟩ := Kd.R_slice HO325.out; subst eo82; have hnb83 := NB329_311.out; have hnc83 := NB311_329.out; have hnb84 := NB329_0.out; have hnc84 := NB0_329.out; obtain ⟨hcz85_0, hcz85_1, hfz85_0, hfz85_1⟩ := Bc2_ BK329; obtain ⟨Ao86, co86, eo86⟩ := Kd.R_slice HO328.out; subst eo86; have hnb87 := NB311_0.out; have hnc87 := NB0_311.out; obtain ⟨hcz88_0, hcz88_1, hfz88_0, hfz88_1⟩ := Bc2_ BK311))
    refine bodyPost_ret (results_cell_row rfl _ _ gb311 28 #[.slice Ao82 t323.length co82, .slice Ao86 t326.length co86] (0, 0) _ rfl (by (with_reducible repeat (first | refine blk_drewN ?_ _ | refine blk_drew ?_ | refine blk_alloc ?_ _)); refine blk_put (cs := #[.slice Ao82 t323.length co82, .slice none 0 0]) ?_ 1 _ rfl; (with_reducible repeat (first | refine blk_drewN ?_ _ | refine blk_drew ?_ | refine blk_alloc ?_ _)); refine blk_put (cs := #[.slice none 0 0, .slice none 0 0]) ?_ 0 _ rfl; (with_reducible repeat (first | refine blk_drewN ?_ _ | refine blk_drew ?_ | refine blk_alloc ?_ _)); refine blk_far ?_ NB311_329.out _; (with_reducible repeat (first | refine blk_drewN ?_ _ | refine blk_drew ?_ | refine blk_alloc ?_ _)); refine blk_far ?_ NB311_329.out _; (with_reducible repeat (first | refine blk_drewN ?_ _ | refine blk_drew ?_ | refine blk_alloc ?_ _)); exact BK311.out) Try.underlying28 rfl (by kernel_rfl)) rfl ?_
    exact ⟨_, _, Re_, by (with_reducible repeat (first | apply Kd.R_alloc | apply Kd.R_drewN | apply Kd.R_drew)); exact Kd.R_mono (Kd.R_far (p := ⟨gb311, 1, none⟩) (Kd.R_far (p := ⟨gb311, 0, none⟩) (Kd.R_far (p := ⟨gb329, 1, none⟩) (Kd.R_far (p := ⟨gb329, 0, none⟩) (Kd.R_types (Kd.R_types HO325.out BK329.out (by decide)) BK311.out (by decide)) (fun _ hk => hk.1.2) (.slice Ao82 t323.length co82)) (fun _ hk => hk.1.2) (.slice Ao86 t326.length co86)) (fun _ hk => hk.2) (.slice Ao82 t323.length co82)) (fun _ hk => hk.2) (.slice Ao86 t326.length co86)) (fun _ hk => trivial), by (with_reducible repeat (first | apply Kd.R_alloc | apply Kd.R_drewN | apply Kd.R_drew)); exact Kd.R_mono (Kd.R_far (p := ⟨gb311, 1, none⟩) (Kd.R_far (p := ⟨gb311, 0, none⟩) (Kd.R_far (p := ⟨gb329, 1, none⟩) (Kd.R_far (p := ⟨gb329, 0, none⟩) (Kd.R_types (Kd.R_types HO328.out BK329.out (by decide)) BK311.out (by decide)) (fun _ hk => hk.1.2) (.slice Ao82 t323.length co82)) (fun _ hk => hk.1.2) (.slice Ao86 t326.length co86)) (fun _ hk => hk.2) (.slice Ao82 t323.length co82)) (fun _ hk => hk.2) (.slice Ao86 t326.length co86)) (fun _ hk => trivial), by repeat (first | (with_reducible first | exact HI0.out | apply IsS145.alloc | apply IsS145.drewN | apply IsS145.drew | apply IsS145.set_1 | apply IsS145.set_2 | refine IsS145.far ?_ (Aside0.out (by with_reducible assumption)) _ | refine IsS145.far ?_ NB0_311.out _ | refine IsS145.far ?_ NB0_329.out _) | exact HI0.out), by repeat (first | (with_reducible first | exact HB.out | apply below_alloc | apply pw_below_drewN | apply below_drew1 | refine below_set ?_ (IsS145.ge HI0.out) | refine below_set ?_ GE311.out | refine below_set ?_ GE329.out) | exact HB.out), by repeat (first | (with_reducible first | exact HK.out | apply KeepBut.set_ | apply keep_drewN | apply keep_drew | apply keep_alloc | refine keep_far ?_ GW311.out _ | refine keep_far ?_ GW329.out _) | exact HK.out)⟩

/-! ### spec_DrawTogether: function 40 -/
def spec_DrawTogether.f (k : Nat) (l0 : List Int) : Option (List ByteArray × List Int × List ByteArray × List Int) := (spec_l01New.f k l0).bind fun bt346 => ((spec_l10Any.f k bt346.1 bt346.2.1 bt346.2.2).bind fun bt350 => ((spec_l10Any.f k bt346.1 bt350.2.2.1 bt350.2.2.2).bind fun bt359 => (some (bt350.1, bt350.2.1, bt359.1, bt359.2.1))))
theorem spec_DrawTogether.mono : ∀ a0 k, LeO (spec_DrawTogether.f k a0) (spec_DrawTogether.f (k + 1) a0) := by
 intro a0 k
 unfold spec_DrawTogether.f
 repeat' first
   | (with_reducible exact spec_l01New.mono _ _)
   | (with_reducible exact spec_l10Any.mono _ _ _ _)
   | (with_reducible exact LeO.refl _)
   | (with_reducible exact LeO.none _)
   | (with_reducible refine LeO.ite ?_ ?_)
   | (with_reducible refine LeO.bind ?_ (fun _ => ?_))
   | exact spec_l01New.mono _ _
   | exact spec_l10Any.mono _ _ _ _
   | exact LeO.none _
   | refine LeO.ite ?_ ?_
   | refine LeO.bind ?_ (fun _ => ?_)
set_option maxHeartbeats 8000000 in
set_option maxRecDepth 100000 in
theorem spec_DrawTogether.calls (k : Nat) (A0 : Option Addr) (c0 : Nat) (l0 : List Int) (r1 : List ByteArray) (r2 : List Int) (r3 : List ByteArray) (r4 : List Int) (w : World) (hr0 : Kd.C (Kd.int .u8) w A0 l0.length l0) (hc0 : l0.length ≤ c0) (h : spec_DrawTogether.f k l0 = some (r1, r2, r3, r4)) :
  Calls Try.prog 40 #[.slice A0 l0.length c0] w fun e w' => ∃ v0_ v1_ v2_ v3_ : Value, e = .returned (.tuple #[.agg #[v0_, v1_], .agg #[v2_, v3_]]) ∧ Kd.R Kd.string 9 w' w.heap.size (fun k_ => some k_ ≠ (v2_ : Value).ownBlock) v0_ r1 ∧ Kd.R (Kd.int .i64) 3 w' w.heap.size (fun k_ => some k_ ≠ (v3_ : Value).ownBlock) v1_ r2 ∧ Kd.R Kd.string 9 w' w.heap.size (fun k_ => some k_ ≠ (v0_ : Value).ownBlock) v2_ r3 ∧ Kd.R (Kd.int .i64) 3 w' w.heap.size (fun k_ => some k_ ≠ (v1_ : Value).ownBlock) v3_ r4 ∧ Below w.heap.size w w' := by
 have hu28 := Try.underlying28
 have HR0 := Aside0.mk hr0
 have HC0 := Aside0.mk hc0
 clear hr0 hc0
 have HB := Aside0.mk (Below.refl w.heap.size w)
 have H : ((spec_l01New.f k l0).bind fun bt346 => ((spec_l10Any.f k bt346.1 bt346.2.1 bt346.2.2).bind fun bt350 => ((spec_l10Any.f k bt346.1 bt350.2.2.1 bt350.2.2.2).bind fun bt359 => (some (bt350.1, bt350.2.1, bt359.1, bt359.2.1))))) = some (r1, r2, r3, r4) := h
 clear h
 replace H := Option.bind_eq_some_iff.mp H
 obtain ⟨⟨t346, t347, t348⟩, A20, H⟩ := H
 replace H : ((spec_l10Any.f k t346 t347 t348).bind fun bt350 => ((spec_l10Any.f k t346 bt350.2.2.1 bt350.2.2.2).bind fun bt359 => (some (bt350.1, bt350.2.1, bt359.1, bt359.2.1)))) = some (r1, r2, r3, r4) := H
 have A2 := Aside0.mk A20
 clear A20
 replace H := Option.bind_eq_some_iff.mp H
 obtain ⟨⟨t350, t353, t356, t357⟩, A30, H⟩ := H
 replace H : ((spec_l10Any.f k t346 t356 t357).bind fun bt359 => (some (t350, t353, bt359.1, bt359.2.1))) = some (r1, r2, r3, r4) := H
 have A3 := Aside0.mk A30
 clear A30
 replace H := Option.bind_eq_some_iff.mp H
 obtain ⟨⟨t359, t362, t365, t366⟩, A40, H⟩ := H
 replace H : (some (t350, t353, t359, t362)) = some (r1, r2, r3, r4) := H
 have A4 := Aside0.mk A40
 clear A40
 simp only [Option.some.injEq, Prod.mk.injEq] at H
 obtain ⟨rfl, rfl, rfl, rfl⟩ := H
 go_enter Try.func40, Try.ntmps40
 try go_wp2_with (first | ((with_reducible refine gate_dst (N := 2) rfl ?_); refine box_event ?hg (N := 2) ?hd (cs := #[.slice none 0 0, .slice none 0 0]) (t := 28) ?hr ?_; (case hd => rfl); (case hg => rfl); (case hr => first | (go_simp; done) | (go_simp; rfl)); intro gb344 hg w5 hbox hb; have BK344 := Aside0.mk (hbox); have GW344 := Hg_ HB hg; have GE344 := GW344; replace HB := Hs_ HB hb; clear hb hbox hg) | ((with_reducible refine gate_dst (N := 3) rfl ?_); refine box_event ?hg (N := 3) ?hd (cs := #[.slice none 0 0, .slice none 0 0]) (t := 28) ?hr ?_; (case hd => rfl); (case hg => rfl); (case hr => first | (go_simp; done) | (go_simp; rfl)); intro gb345 hg w6 hbox hb; have BK345 := Aside0.mk (hbox); have GW345 := Hg_ HB hg; have GE345 := GW345; have NB344_345 := Bl_ BK344 hg; have NB345_344 := Bm_ NB344_345; replace BK344 := Bb_ BK344 hb; replace HB := Hs_ HB hb; clear hb hbox hg) | ((with_reducible refine gate_callee (f := 83) rfl ?_); refine goesL_ (some 7) rfl rfl Try.func83 (by kernel_rfl) rfl #[.slice A0 l0.length c0] rfl Mp_ ?_; (with_reducible refine (spec_l01New.calls k _ _ l0 t346 t347 t348 w _ ?side1 ?side2 ?side3 A2.out).mono ?_); (case side1 => repeat (first | (with_reducible first | exact HB.out | apply below_alloc | apply pw_below_drewN | apply below_drew1 | refine below_set ?_ GE344.out | refine below_set ?_ GE345.out) | exact HB.out)); (case side2 => exact HR0.out); (case side3 => exact HC0.out); rintro e w7 ⟨g349, rfl, hi, hb, hb2⟩; refine ⟨_, rfl, ?_⟩; have HI349 := Aside0.mk (hi); have NB349_344 := Aside0.mk (IsS145.ne_blk hi (blk_below (g := gb344) (o := .cells #[.slice none 0 0, .slice none 0 0] 28 (0, 0)) (Bq_ BK344) hb2) (by decide)); have NB344_349 := Aside0.mk (Ne.symm (IsS145.ne_blk hi (blk_below (g := gb344) (o := .cells #[.slice none 0 0, .slice none 0 0] 28 (0, 0)) (Bq_ BK344) hb2) (by decide))); have NB349_345 := Aside0.mk (IsS145.ne_blk hi (blk_below (g := gb345) (o := .cells #[.slice none 0 0, .slice none 0 0] 28 (0, 0)) (Bq_ BK345) hb2) (by decide)); have NB345_349 := Aside0.mk (Ne.symm (IsS145.ne_blk hi (blk_below (g := gb345) (o := .cells #[.slice none 0 0, .slice none 0 0] 28 (0, 0)) (Bq_ BK345) hb2) (by decide))); replace BK344 := Aside0.mk (blk_below (g := gb344) (o := .cells #[.slice none 0 0, .slice none 0 0] 28 (0, 0)) (Bq_ BK344) hb2); replace BK345 := Aside0.mk (blk_below (g := gb345) (o := .cells #[.slice none 0 0, .slice none 0 0] 28 (0, 0)) (Bq_ BK345) hb2); replace HB := Aside0.mk (hb); (try clear hb); (try clear hb2); (try clear hk); (try clear hi)) | ((with_reducible refine gate_callee (f := 86) rfl ?_); refine goesL_ (some 9) rfl rfl Try.func86 (by kernel_rfl) rfl #[.pointer (some ⟨g349, 0, none⟩)] rfl Mp_ ?_; (with_reducible refine (spec_l10Any.calls k g349 t346 t347 t348 t350 t353 t356 t357 w _ ?side1 ?side2 A3.out).mono ?_); (case side1 => repeat (first | (with_reducible first | exact HI349.out | apply IsS145.alloc | apply IsS145.drewN | apply IsS145.drew | apply IsS145.set_1 | apply IsS145.set_2 | refine IsS145.far ?_ (Aside0.out (by with_reducible assumption)) _ | refine IsS145.far ?_ NB349_344.out _ | refine IsS145.far ?_ NB349_345.out _) | exact HI349.out)); (case side2 => repeat (first | (with_reducible first | exact HB.out | apply below_alloc | apply pw_below_drewN | apply below_drew1 | refine below_set ?_ (IsS145.ge HI349.out) | refine below_set ?_ GE344.out | refine below_set ?_ GE345.out) | exact HB.out)); rintro e w8 ⟨v351, v354, rfl, ho0, ho1, hi, hb, hk⟩; refine ⟨_, rfl, ?_⟩; have HO352 := Aside0.mk (Kd.R_lower ho0 (below_size (by repeat (first | (with_reducible first | exact HB.out | apply below_alloc | apply pw_below_drewN | apply below_drew1 | refine below_set ?_ (IsS145.ge HI349.out) | refine below_set ?_ GE344.out | refine below_set ?_ GE345.out) | exact HB.out)))); have HO355 := Aside0.mk (Kd.R_lower ho1 (below_size (by repeat (first | (with_reducible first | exact HB.out | apply below_alloc | apply pw_below_drewN | apply below_drew1 | refine below_set ?_ (IsS145.ge HI349.out) | refine below_set ?_ GE344.out | refine below_set ?_ GE345.out) | exact HB.out)))); replace BK344 := Aside0.mk (KeepBut.blk hk (g' := gb344) (o := .cells #[.slice none 0 0, .slice none 0 0] 28 (0, 0)) (Bq_ BK344) NB344_349.out (by simp)); replace BK345 := Aside0.mk (KeepBut.blk hk (g' := gb345) (o := .cells #[.slice none 0 0, .slice none 0 0] 28 (0, 0)) (Bq_ BK345) NB345_349.out (by simp)); replace HI349 := Aside0.mk (hi); replace HB := Aside0.mk (hb); (try clear hb); (try clear hb2); (try clear hk); (try clear hi); (try clear ho0); (try clear ho1)) | ((with_reducible refine gate_dst (N := 5) rfl ?_); refine box_event ?hg (N := 5) ?hd (cs := #[.slice none 0 0, .slice none 0 0]) (t := 28) ?hr ?_; (case hd => rfl); (case hg => rfl); (case hr => first | (go_simp; done) | (go_simp; rfl)); intro gb358 hg w9 hbox hb; have n0_ := Rb_ HO352 hb; have n1_ := Rb_ HO355 hb; have n2_ := Bb_ BK344 hb; have n3_ := Bb_ BK345 hb; have n4_ := Aside0.mk (IsS145.below (by repeat (first | (with_reducible first | exact HI349.out | apply IsS145.alloc | apply IsS145.drewN | apply IsS145.drew | apply IsS145.set_1 | apply IsS145.set_2 | refine IsS145.far ?_ (Aside0.out (by with_reducible assumption)) _ | refine IsS145.far ?_ NB349_344.out _ | refine IsS145.far ?_ NB349_345.out _) | exact HI349.out)) hb); have n5_ := Aside0.mk (below_step (by repeat (first | (with_reducible first | exact HB.out | apply below_alloc | apply pw_below_drewN | apply below_drew1 | refine below_set ?_ (IsS145.ge HI349.out) | refine below_set ?_ GE344.out | refine below_set ?_ GE345.out) | exact HB.out)) hb); have n6_ := Aside0.mk (hbox); have n7_ := Aside0.mk ((by rw [hg]; exact (below_size (by repeat (first | (with_reducible first | exact HB.out | apply below_alloc | apply pw_below_drewN | apply below_drew1 | refine below_set ?_ (IsS145.ge HI349.out) | refine below_set ?_ GE344.out | refine below_set ?_ GE345.out) | exact HB.out))) : w.heap.size ≤ gb358)); have n8_ := Aside0.mk ((by rw [hg]; exact (below_size (by repeat (first | (with_reducible first | exact HB.out | apply below_alloc | apply pw_below_drewN | apply below_drew1 | refine below_set ?_ (IsS145.ge HI349.out) | refine below_set ?_ GE344.out | refine below_set ?_ GE345.out) | exact HB.out))) : w.heap.size ≤ gb358)); have n9_ := Bl_ BK344 hg; have n10_ := Bm_ (Bl_ BK344 hg); have n11_ := Bl_ BK345 hg; have n12_ := Bm_ (Bl_ BK345 hg); have n13_ := Aside0.mk ((by rw [hg]; exact Nat.ne_of_lt (IsS145.lt (show IsS145 w _ g349 t346 t356 t357 from by repeat (first | (with_reducible first | exact HI349.out | apply IsS145.alloc | apply IsS145.drewN | apply IsS145.drew | apply IsS145.set_1 | apply IsS145.set_2 | refine IsS145.far ?_ (Aside0.out (by with_reducible assumption)) _ | refine IsS145.far ?_ NB349_344.out _ | refine IsS145.far ?_ NB349_345.out _) | exact HI349.out))) : g349 ≠ gb358)); have n14_ := Aside0.mk ((by rw [hg]; exact Nat.ne_of_gt (IsS145.lt (show IsS145 w _ g349 t346 t356 t357 from by repeat (first | (with_reducible first | exact HI349.out | apply IsS145.alloc | apply IsS145.drewN | apply IsS145.drew | apply IsS145.set_1 | apply IsS145.set_2 | refine IsS145.far ?_ (Aside0.out (by with_reducible assumption)) _ | refine IsS145.far ?_ NB349_344.out _ | refine IsS145.far ?_ NB349_345.out _) | exact HI349.out))) : gb358 ≠ g349)); clear HO352; clear HO355; clear BK344; clear BK345; clear HI349; clear HB; have HO352 := n0_; have HO355 := n1_; have BK344 := n2_; have BK345 := n3_; have HI349 := n4_; have HB := n5_; have BK358 := n6_; have GW358 := n7_; have GE358 := n8_; have NB344_358 := n9_; have NB358_344 := n10_; have NB345_358 := n11_; have NB358_345 := n12_; have NB349_358 := n13_; have NB358_349 := n14_; clear n0_ n1_ n2_ n3_ n4_ n5_ n6_ n7_ n8_ n9_ n10_ n11_ n12_ n13_ n14_; clear hb hbox hg; obtain ⟨Ao10, co10, eo10⟩ := Kd.R_slice HO352.out; subst eo10; have hnb11 := NB358_344.out; have hnc11 := NB344_358.out; have hnb12 := NB358_345.out; have hnc12 := NB345_358.out; have hnb13 := NB358_349.out; have hnc13 := NB349_358.out; obtain ⟨hcz14_0, hcz14_1, hfz14_0, hfz14_1⟩ := Bc2_ BK358; obtain ⟨Ao15, co15, eo15⟩ := Kd.R_slice HO355.out; subst eo15))
 have n0_ : Aside0 (Kd.R Kd.string 9 ((w9.setCell ⟨gb358, 0, none⟩ (.slice Ao10 t350.length co10)).setCell ⟨gb358, 1, none⟩ (.slice Ao15 t353.length co15)) w.heap.size (fun _ => True) (.slice Ao10 t350.length co10) t350) := ⟨by (with_reducible repeat (first | apply Kd.R_alloc | apply Kd.R_drewN | apply Kd.R_drew)); exact Kd.R_mono (Kd.R_far (p := ⟨gb358, 1, none⟩) (Kd.R_far (p := ⟨gb358, 0, none⟩) (Kd.R_types HO352.out BK358.out (by decide)) (fun _ hk => hk.2) (.slice Ao10 t350.length co10)) (fun _ hk => hk.2) (.slice Ao15 t353.length co15)) (fun _ hk => trivial)⟩
 have n1_ : Aside0 (Kd.R (Kd.int .i64) 3 ((w9.setCell ⟨gb358, 0, none⟩ (.slice Ao10 t350.length co10)).setCell ⟨gb358, 1, none⟩ (.slice Ao15 t353.length co15)) w.heap.size (fun _ => True) (.slice Ao15 t353.length co15) t353) := ⟨by (with_reducible repeat (first | apply Kd.R_alloc | apply Kd.R_drewN | apply Kd.R_drew)); exact Kd.R_mono (Kd.R_far (p := ⟨gb358, 1, none⟩) (Kd.R_far (p := ⟨gb358, 0, none⟩) (Kd.R_types HO355.out BK358.out (by decide)) (fun _ hk => hk.2) (.slice Ao10 t350.length co10)) (fun _ hk => hk.2) (.slice Ao15 t353.length co15)) (fun _ hk => trivial)⟩
 have n2_ : Aside0 (((w9.setCell ⟨gb358, 0, none⟩ (.slice Ao10 t350.length co10)).setCell ⟨gb358, 1, none⟩ (.slice Ao15 t353.length co15)).heap[gb344]? = some (.cells #[.slice none 0 0, .slice none 0 0] 28 (0, 0))) := ⟨by (with_reducible repeat (first | refine blk_drewN ?_ _ | refine blk_drew ?_ | refine blk_alloc ?_ _)); refine blk_far ?_ NB344_358.out _; (with_reducible repeat (first | refine blk_drewN ?_ _ | refine blk_drew ?_ | refine blk_alloc ?_ _)); refine blk_far ?_ NB344_358.out _; (with_reducible repeat (first | refine blk_drewN ?_ _ | refine blk_drew ?_ | refine blk_alloc ?_ _)); exact BK344.out⟩
 have n3_ : Aside0 (((w9.setCell ⟨gb358, 0, none⟩ (.slice Ao10 t350.length co10)).setCell ⟨gb358, 1, none⟩ (.slice Ao15 t353.length co15)).heap[gb345]? = some (.cells #[.slice none 0 0, .slice none 0 0] 28 (0, 0))) := ⟨by (with_reducible repeat (first | refine blk_drewN ?_ _ | refine blk_drew ?_ | refine blk_alloc ?_ _)); refine blk_far ?_ NB345_358.out _; (with_reducible repeat (first | refine blk_drewN ?_ _ | refine blk_drew ?_ | refine blk_alloc ?_ _)); refine blk_far ?_ NB345_358.out _; (with_reducible repeat (first | refine blk_drewN ?_ _ | refine blk_drew ?_ | refine blk_alloc ?_ _)); exact BK345.out⟩
 have n4_ : Aside0 (((w9.setCell ⟨gb358, 0, none⟩ (.slice Ao10 t350.length co10)).setCell ⟨gb358, 1, none⟩ (.slice Ao15 t353.length co15)).heap[gb358]? = some (.cells #[.slice Ao10 t350.length co10, .slice Ao15 t353.length co15] 28 (0, 0))) := ⟨by (with_reducible repeat (first | refine blk_drewN ?_ _ | refine blk_drew ?_ | refine blk_alloc ?_ _)); refine blk_put (cs := #[.slice Ao10 t350.length co10, .slice none 0 0]) ?_ 1 _ rfl; (with_reducible repeat (first | refine blk_drewN ?_ _ | refine blk_drew ?_ | refine blk_alloc ?_ _)); refine blk_put (cs := #[.slice none 0 0, .slice none 0 0]) ?_ 0 _ rfl; (with_reducible repeat (first | refine blk_drewN ?_ _ | refine blk_drew ?_ | refine blk_alloc ?_ _)); exact BK358.out⟩
 have n5_ : Aside0 (IsS145 w ((w9.setCell ⟨gb358, 0, none⟩ (.slice Ao10 t350.length co10)).setCell ⟨gb358, 1, none⟩ (.slice Ao15 t353.length co15)) g349 t346 t356 t357) := ⟨by repeat (first | (with_reducible first | exact HI349.out | apply IsS145.alloc | apply IsS145.drewN | apply IsS145.drew | apply IsS145.set_1 | apply IsS145.set_2 | refine IsS145.far ?_ (Aside0.out (by with_reducible assumption)) _ | refine IsS145.far ?_ NB349_344.out _ | refine IsS145.far ?_ NB349_345.out _ | refine IsS145.far ?_ NB349_358.out _) | exact HI349.out)⟩
 have n6_ : Aside0 (Below w.heap.size w ((w9.setCell ⟨gb358, 0, none⟩ (.slice Ao10 t350.length co10)).setCell ⟨gb358, 1, none⟩ (.slice Ao15 t353.length co15))) := ⟨by repeat (first | (with_reducible first | exact HB.out | apply below_alloc | apply pw_below_drewN | apply below_drew1 | refine below_set ?_ (IsS145.ge HI349.out) | refine below_set ?_ GE344.out | refine below_set ?_ GE345.out | refine below_set ?_ GE358.out) | exact HB.out)⟩
 (try clear HO352)
 (try clear HO355)
 (try clear BK344)
 (try clear BK345)
 (try clear BK358)
 (try clear HI349)
 (try clear HB)
 generalize ((w9.setCell ⟨gb358, 0, none⟩ (.slice Ao10 t350.length co10)).setCell ⟨gb358, 1, none⟩ (.slice Ao15 t353.length co15)) = w16 at n0_ n1_ n2_ n3_ n4_ n5_ n6_ ⊢
 have HO352 := n0_
 have HO355 := n1_
 have BK344 := n2_
 have BK345 := n3_
 have BK358 := n4_
 have HI349 := n5_
 have HB := n6_
 clear n0_ n1_ n2_ n3_ n4_ n5_ n6_
 replace HO352 := Aside0.mk (Kd.R_drew HO352.out); replace HO355 := Aside0.mk (Kd.R_drew HO355.out); replace BK344 := Aside0.mk (blk_drew BK344.out); replace BK345 := Aside0.mk (blk_drew BK345.out); replace BK358 := Aside0.mk (blk_drew BK358.out); replace HI349 := Aside0.mk (IsS145.drew HI349.out); replace HB := Aside0.mk (below_drew1 HB.out)
 refine start_ (n := 5) (S := fun w' => w'.cell? ⟨gb358, 0, none⟩ = some (.slice Ao10 t350.length co10) ∧ w'.cell? ⟨gb358, 1, none⟩ = some (.slice Ao15 t353.length co15)) (ds := []) #[false, false, false, false, false] (by kernel_rfl) rfl rfl ⟨(blk_cell BK358.out 0).trans rfl, (blk_cell BK358.out 1).trans rfl⟩ (fun hHeld => ?_)
 generalize w16.drew = w17 at HO352 HO355 BK344 BK345 BK358 HI349 HB hHeld ⊢
 refine pure_ (i := 1) (N := some 11) (v := ?_) (a' := ?_) #[false, true, false, false, false] rfl rfl (by kernel_rfl) (fun _ _ _ h => h) (Or.inl ⟨by rfl, ?_⟩) ?_ ?_
 rotate_left
 ·intro w'
  go_simp
  with_reducible rfl
 rotate_left
 ·simp only [Act.put, List.setIfInBounds_toArray, List.set_cons_zero, List.set_cons_succ, i64_w, i32_w]
  rfl
 refine take_ (i := 0) (N := some 10) (v := ?_) (a' := ?_) #[true, true, false, false, false] rfl rfl (by kernel_rfl) (fun _ _ _ h => h) (Or.inl ⟨by rfl, ?_⟩) hHeld ?_ ?_
 rotate_left
 ·rintro w' ⟨s0, s1⟩
  go_simp
  with_reducible rfl
 rotate_left
 ·simp only [Act.put, List.setIfInBounds_toArray, List.set_cons_zero, List.set_cons_succ, i64_w, i32_w]
  rfl
 refine one_ (i := 2) (N := some 12) #[true, true, true, false, false] rfl rfl (by kernel_rfl) (by decide) (fun K hK => ?_)
 refine goes_ Try.func86 (by kernel_rfl) rfl #[.pointer (some ⟨g349, 0, none⟩)] (by rfl) rfl rfl Mp_ ?_
 with_reducible refine (spec_l10Any.calls k g349 t346 t356 t357 t359 t362 t365 t366 w _ ?side1 ?side2 A4.out).mono ?_
 (case side1 => repeat (first | (with_reducible first | exact HI349.out | apply IsS145.alloc | apply IsS145.drewN | apply IsS145.drew | apply IsS145.set_1 | apply IsS145.set_2 | refine IsS145.far ?_ (Aside0.out (by with_reducible assumption)) _ | refine IsS145.far ?_ NB349_344.out _ | refine IsS145.far ?_ NB349_345.out _ | refine IsS145.far ?_ NB349_358.out _) | exact HI349.out))
 (case side2 => repeat (first | (with_reducible first | exact HB.out | apply below_alloc | apply pw_below_drewN | apply below_drew1 | refine below_set ?_ (IsS145.ge HI349.out) | refine below_set ?_ GE344.out | refine below_set ?_ GE345.out | refine below_set ?_ GE358.out) | exact HB.out))
 rintro e w18 ⟨v360, v363, rfl, ho0, ho1, hi, hb, hk⟩
 refine ⟨_, rfl, ?_⟩
 have HO361 := Aside0.mk (Kd.R_lower (Kd.R_new' ho0 (Kd.R_lt (Rq_ HO352))) (below_size (by repeat (first | (with_reducible first | exact HB.out | apply below_alloc | apply pw_below_drewN | apply below_drew1 | refine below_set ?_ (IsS145.ge HI349.out) | refine below_set ?_ GE344.out | refine below_set ?_ GE345.out | refine below_set ?_ GE358.out) | exact HB.out)))); have HO364 := Aside0.mk (Kd.R_lower (Kd.R_new' ho1 (Kd.R_lt (Rq_ HO355))) (below_size (by repeat (first | (with_reducible first | exact HB.out | apply below_alloc | apply pw_below_drewN | apply below_drew1 | refine below_set ?_ (IsS145.ge HI349.out) | refine below_set ?_ GE344.out | refine below_set ?_ GE345.out | refine below_set ?_ GE358.out) | exact HB.out)))); replace BK344 := Aside0.mk (KeepBut.blk hk (g' := gb344) (o := .cells #[.slice none 0 0, .slice none 0 0] 28 (0, 0)) (Bq_ BK344) NB344_349.out (by simp)); replace BK345 := Aside0.mk (KeepBut.blk hk (g' := gb345) (o := .cells #[.slice none 0 0, .slice none 0 0] 28 (0, 0)) (Bq_ BK345) NB345_349.out (by simp)); replace HO352 := Aside0.mk (Kd.R_mono (Kd.R_told (Kd.R_oldK (IsS145.apart (show IsS145 w _ g349 t346 t356 t357 from by repeat (first | (with_reducible first | exact HI349.out | apply IsS145.alloc | apply IsS145.drewN | apply IsS145.drew | apply IsS145.set_1 | apply IsS145.set_2 | refine IsS145.far ?_ (Aside0.out (by with_reducible assumption)) _ | refine IsS145.far ?_ NB349_344.out _ | refine IsS145.far ?_ NB349_345.out _ | refine IsS145.far ?_ NB349_358.out _) | exact HI349.out)) (Rq_ HO352) (by decide)) hk) (Kd.R_base ho0)) (fun _ h_ => h_.1)); replace HO355 := Aside0.mk (Kd.R_mono (Kd.R_told (Kd.R_oldK (IsS145.apart (show IsS145 w _ g349 t346 t356 t357 from by repeat (first | (with_reducible first | exact HI349.out | apply IsS145.alloc | apply IsS145.drewN | apply IsS145.drew | apply IsS145.set_1 | apply IsS145.set_2 | refine IsS145.far ?_ (Aside0.out (by with_reducible assumption)) _ | refine IsS145.far ?_ NB349_344.out _ | refine IsS145.far ?_ NB349_345.out _ | refine IsS145.far ?_ NB349_358.out _) | exact HI349.out)) (Rq_ HO355) (by decide)) hk) (Kd.R_base ho1)) (fun _ h_ => h_.1)); replace BK358 := Aside0.mk (KeepBut.blk hk (g' := gb358) (o := .cells #[.slice Ao10 t350.length co10, .slice Ao15 t353.length co15] 28 (0, 0)) (Bq_ BK358) NB358_349.out (by simp)); replace HI349 := Aside0.mk (hi); replace HB := Aside0.mk (hb)
 (try clear hb)
 (try clear hb2)
 (try clear hk)
 (try clear hi)
 (try clear ho0)
 (try clear ho1)
 obtain ⟨Ao21, co21, eo21⟩ := Kd.R_slice HO361.out
 (first | subst eo21 | (injection eo21 with f1_ f2_ f3_; have f4_ := f1_.symm; have f5_ := f3_.symm; clear f1_ f2_ f3_; subst f4_; subst f5_))
 obtain ⟨Ao23, co23, eo23⟩ := Kd.R_slice HO364.out
 (first | subst eo23 | (injection eo23 with f1_ f2_ f3_; have f4_ := f1_.symm; have f5_ := f3_.symm; clear f1_ f2_ f3_; subst f4_; subst f5_))
 refine hK.out _ _ ⟨(blk_cell BK358.out 0).trans rfl, (blk_cell BK358.out 1).trans rfl⟩ (fun hHeld => ?_)
 clear hK K
 refine norm_ (a' := ?_) ?_ ?_
 rotate_left
 ·show Act.put _ (some 12) _ = _
  simp only [Act.put, List.setIfInBounds_toArray, List.set_cons_zero, List.set_cons_succ, i64_w, i32_w]
  rfl
 refine one_ (i := 3) (N := none) #[true, true, true, true, false] rfl rfl (by kernel_rfl) (by decide) (fun K hK => ?_)
 have hs19 : w18.cell? ⟨gb344, 0, none⟩ = some (.slice none 0 0) := (blk_cell BK344.out 0).trans rfl
 have hfs19 := blk_frozen BK344.out 0
 have hns19_1 := NB345_344.out
 have hns19_2 := NB358_344.out
 have hms19_1 := NB344_345.out
 have hms19_2 := NB344_358.out
 have hs20 : w18.cell? ⟨gb344, 1, none⟩ = some (.slice none 0 0) := (blk_cell BK344.out 1).trans rfl
 have hfs20 := blk_frozen BK344.out 1
 have hns20_1 := NB345_344.out
 have hns20_2 := NB358_344.out
 have hms20_1 := NB344_345.out
 have hms20_2 := NB344_358.out
 refine skip_ (w1 := ?_) (by rfl) rfl ?_ ?_
 rotate_left
 ·go_simp
  rfl
 refine hK.out _ _ ⟨((cell_far (p := ⟨gb344, _, none⟩) NB358_344.out _).trans (((cell_far (p := ⟨gb344, _, none⟩) NB358_344.out _).trans (hHeld.1)))), ((cell_far (p := ⟨gb344, _, none⟩) NB358_344.out _).trans (((cell_far (p := ⟨gb344, _, none⟩) NB358_344.out _).trans (hHeld.2))))⟩ (fun hHeld => ?_)
 clear hK K
 refine one_ (i := 4) (N := none) #[true, true, true, true, true] rfl rfl (by kernel_rfl) (by decide) (fun K hK => ?_)
 have hs22 : w18.cell? ⟨gb345, 0, none⟩ = some (.slice none 0 0) := (blk_cell BK345.out 0).trans rfl
 have hfs22 := blk_frozen BK345.out 0
 have hns22_0 := NB344_345.out
 have hns22_2 := NB358_345.out
 have hms22_0 := NB345_344.out
 have hms22_2 := NB345_358.out
 have hs24 : w18.cell? ⟨gb345, 1, none⟩ = some (.slice none 0 0) := (blk_cell BK345.out 1).trans rfl
 have hfs24 := blk_frozen BK345.out 1
 have hns24_0 := NB344_345.out
 have hns24_2 := NB358_345.out
 have hms24_0 := NB345_344.out
 have hms24_2 := NB345_358.out
 refine skip_ (w1 := ?_) (by rfl) rfl ?_ ?_
 rotate_left
 ·go_simp
  rfl
 refine hK.out _ _ ⟨((cell_far (p := ⟨gb345, _, none⟩) NB358_345.out _).trans (((cell_far (p := ⟨gb345, _, none⟩) NB358_345.out _).trans (hHeld.1)))), ((cell_far (p := ⟨gb345, _, none⟩) NB358_345.out _).trans (((cell_far (p := ⟨gb345, _, none⟩) NB358_345.out _).trans (hHeld.2))))⟩ (fun hHeld => ?_)
 clear hK K
 refine done_ (by kernel_rfl) ?_
 try go_wp2
 refine bodyPost_ret (results_cc rfl _ _ gb344 gb345 28 28 #[.slice Ao10 t350.length co10, .slice Ao15 t353.length co15] #[.slice Ao21 t359.length co21, .slice Ao23 t362.length co23] (0, 0) (0, 0) _ _ rfl (by (with_reducible repeat (first | refine blk_drewN ?_ _ | refine blk_drew ?_ | refine blk_alloc ?_ _)); refine blk_far ?_ NB344_345.out _; (with_reducible repeat (first | refine blk_drewN ?_ _ | refine blk_drew ?_ | refine blk_alloc ?_ _)); refine blk_far ?_ NB344_345.out _; (with_reducible repeat (first | refine blk_drewN ?_ _ | refine blk_drew ?_ | refine blk_alloc ?_ _)); refine blk_put (cs := #[.slice Ao10 t350.length co10, .slice none 0 0]) ?_ 1 _ rfl; (with_reducible repeat (first | refine blk_drewN ?_ _ | refine blk_drew ?_ | refine blk_alloc ?_ _)); refine blk_put (cs := #[.slice none 0 0, .slice none 0 0]) ?_ 0 _ rfl; (with_reducible repeat (first | refine blk_drewN ?_ _ | refine blk_drew ?_ | refine blk_alloc ?_ _)); exact BK344.out) Try.underlying28 rfl (by kernel_rfl) rfl (by (with_reducible repeat (first | refine blk_drewN ?_ _ | refine blk_drew ?_ | refine blk_alloc ?_ _)); refine blk_put (cs := #[.slice Ao21 t359.length co21, .slice none 0 0]) ?_ 1 _ rfl; (with_reducible repeat (first | refine blk_drewN ?_ _ | refine blk_drew ?_ | refine blk_alloc ?_ _)); refine blk_put (cs := #[.slice none 0 0, .slice none 0 0]) ?_ 0 _ rfl; (with_reducible repeat (first | refine blk_drewN ?_ _ | refine blk_drew ?_ | refine blk_alloc ?_ _)); refine blk_far ?_ NB345_344.out _; (with_reducible repeat (first | refine blk_drewN ?_ _ | refine blk_drew ?_ | refine blk_alloc ?_ _)); refine blk_far ?_ NB345_344.out _; (with_reducible repeat (first | refine blk_drewN ?_ _ | refine blk_drew ?_ | refine blk_alloc ?_ _)); exact BK345.out) Try.underlying28 rfl (by kernel_rfl)) rfl ?_
 exact ⟨_, _, _, _, Re_, by (with_reducible repeat (first | apply Kd.R_alloc | apply Kd.R_drewN | apply Kd.R_drew)); exact Kd.R_mono (Kd.R_far (p := ⟨gb345, 1, none⟩) (Kd.R_far (p := ⟨gb345, 0, none⟩) (Kd.R_far (p := ⟨gb344, 1, none⟩) (Kd.R_far (p := ⟨gb344, 0, none⟩) (Kd.R_types (Kd.R_types HO352.out BK344.out (by decide)) BK345.out (by decide)) (fun _ hk => hk.1.2) (.slice Ao10 t350.length co10)) (fun _ hk => hk.1.2) (.slice Ao15 t353.length co15)) (fun _ hk => hk.2) (.slice Ao21 t359.length co21)) (fun _ hk => hk.2) (.slice Ao23 t362.length co23)) (fun _ hk => hk.1.1.2), by (with_reducible repeat (first | apply Kd.R_alloc | apply Kd.R_drewN | apply Kd.R_drew)); exact Kd.R_mono (Kd.R_far (p := ⟨gb345, 1, none⟩) (Kd.R_far (p := ⟨gb345, 0, none⟩) (Kd.R_far (p := ⟨gb344, 1, none⟩) (Kd.R_far (p := ⟨gb344, 0, none⟩) (Kd.R_types (Kd.R_types HO355.out BK344.out (by decide)) BK345.out (by decide)) (fun _ hk => hk.1.2) (.slice Ao10 t350.length co10)) (fun _ hk => hk.1.2) (.slice Ao15 t353.length co15)) (fun _ hk => hk.2) (.slice Ao21 t359.length co21)) (fun _ hk => hk.2) (.slice Ao23 t362.length co23)) (fun _ hk => hk.1.1.2), by (with_reducible repeat (first | apply Kd.R_alloc | apply Kd.R_drewN | apply Kd.R_drew)); exact Kd.R_mono (Kd.R_far (p := ⟨gb345, 1, none⟩) (Kd.R_far (p := ⟨gb345, 0, none⟩) (Kd.R_far (p := ⟨gb344, 1, none⟩) (Kd.R_far (p := ⟨gb344, 0, none⟩) (Kd.R_types (Kd.R_types HO361.out BK344.out (by decide)) BK345.out (by decide)) (fun _ hk => hk.1.2) (.slice Ao10 t350.length co10)) (fun _ hk => hk.1.2) (.slice Ao15 t353.length co15)) (fun _ hk => hk.2) (.slice Ao21 t359.length co21)) (fun _ hk => hk.2) (.slice Ao23 t362.length co23)) (fun _ hk => hk.1.1.2), by (with_reducible repeat (first | apply Kd.R_alloc | apply Kd.R_drewN | apply Kd.R_drew)); exact Kd.R_mono (Kd.R_far (p := ⟨gb345, 1, none⟩) (Kd.R_far (p := ⟨gb345, 0, none⟩) (Kd.R_far (p := ⟨gb344, 1, none⟩) (Kd.R_far (p := ⟨gb344, 0, none⟩) (Kd.R_types (Kd.R_types HO364.out BK344.out (by decide)) BK345.out (by decide)) (fun _ hk => hk.1.2) (.slice Ao10 t350.length co10)) (fun _ hk => hk.1.2) (.slice Ao15 t353.length co15)) (fun _ hk => hk.2) (.slice Ao21 t359.length co21)) (fun _ hk => hk.2) (.slice Ao23 t362.length co23)) (fun _ hk => hk.1.1.2), by repeat (first | (with_reducible first | exact HB.out | apply below_alloc | apply pw_below_drewN | apply below_drew1 | refine below_set ?_ (IsS145.ge HI349.out) | refine below_set ?_ GE344.out | refine below_set ?_ GE345.out | refine below_set ?_ GE358.out) | exact HB.out)⟩

/-! ### spec_DrawEnvOk: function 41 -/
def spec_DrawEnvOk.f (k : Nat) (l0 : List Int) : Option (List ByteArray × List Int) := (spec_l01New.f k l0).bind fun bt368 => ((spec_l10Any.f k bt368.1 bt368.2.1 bt368.2.2).bind fun bt372 => (some (bt372.1, bt372.2.1)))
theorem spec_DrawEnvOk.mono : ∀ a0 k, LeO (spec_DrawEnvOk.f k a0) (spec_DrawEnvOk.f (k + 1) a0) := by
 intro a0 k
 unfold spec_DrawEnvOk.f
 repeat' first
   | (with_reducible exact spec_l01New.mono _ _)
   | (with_reducible exact spec_l10Any.mono _ _ _ _)
   | (with_reducible exact LeO.refl _)
   | (with_reducible exact LeO.none _)
   | (with_reducible refine LeO.ite ?_ ?_)
   | (with_reducible refine LeO.bind ?_ (fun _ => ?_))
   | exact spec_l01New.mono _ _
   | exact spec_l10Any.mono _ _ _ _
   | exact LeO.none _
   | refine LeO.ite ?_ ?_
   | refine LeO.bind ?_ (fun _ => ?_)
set_option maxHeartbeats 8000000 in
set_option maxRecDepth 100000 in
theorem spec_DrawEnvOk.calls (k : Nat) (A0 : Option Addr) (c0 : Nat) (l0 : List Int) (r1 : List ByteArray) (r2 : List Int) (w : World) (hr0 : Kd.C (Kd.int .u8) w A0 l0.length l0) (hc0 : l0.length ≤ c0) (h : spec_DrawEnvOk.f k l0 = some (r1, r2)) :
  Calls Try.prog 41 #[.slice A0 l0.length c0] w fun e w' => ∃ v0_ v1_ : Value, e = .returned (.agg #[v0_, v1_]) ∧ Kd.R Kd.string 9 w' w.heap.size (fun _ => True) v0_ r1 ∧ Kd.R (Kd.int .i64) 3 w' w.heap.size (fun _ => True) v1_ r2 ∧ Below w.heap.size w w' := by
 have hu28 := Try.underlying28
 have HR0 := Aside0.mk hr0
 have HC0 := Aside0.mk hc0
 clear hr0 hc0
 have HB := Aside0.mk (Below.refl w.heap.size w)
 have H : ((spec_l01New.f k l0).bind fun bt368 => ((spec_l10Any.f k bt368.1 bt368.2.1 bt368.2.2).bind fun bt372 => (some (bt372.1, bt372.2.1)))) = some (r1, r2) := h
 clear h
 replace H := Option.bind_eq_some_iff.mp H
 obtain ⟨⟨t368, t369, t370⟩, A20, H⟩ := H
 replace H : ((spec_l10Any.f k t368 t369 t370).bind fun bt372 => (some (bt372.1, bt372.2.1))) = some (r1, r2) := H
 have A2 := Aside0.mk A20
 clear A20
 replace H := Option.bind_eq_some_iff.mp H
 obtain ⟨⟨t372, t375, t378, t379⟩, A30, H⟩ := H
 replace H : (some (t372, t375)) = some (r1, r2) := H
 have A3 := Aside0.mk A30
 clear A30
 simp only [Option.some.injEq, Prod.mk.injEq] at H
 obtain ⟨rfl, rfl⟩ := H
 go_enter Try.func41, Try.ntmps41
 go_wp2_with (first | ((with_reducible refine gate_dst (N := 2) rfl ?_); refine box_event ?hg (N := 2) ?hd (cs := #[.slice none 0 0, .slice none 0 0]) (t := 28) ?hr ?_; (case hd => rfl); (case hg => rfl); (case hr => first | (go_simp; done) | (go_simp; rfl)); intro gb367 hg w4 hbox hb; have BK367 := Aside0.mk (hbox); have GW367 := Hg_ HB hg; have GE367 := GW367; replace HB := Hs_ HB hb; clear hb hbox hg) | ((with_reducible refine gate_callee (f := 83) rfl ?_); refine goesL_ (some 4) rfl rfl Try.func83 (by kernel_rfl) rfl #[.slice A0 l0.length c0] rfl Mp_ ?_; (with_reducible refine (spec_l01New.calls k _ _ l0 t368 t369 t370 w _ ?side1 ?side2 ?side3 A2.out).mono ?_); (case side1 => repeat (first | (with_reducible first | exact HB.out | apply below_alloc | apply pw_below_drewN | apply below_drew1 | refine below_set ?_ GE367.out) | exact HB.out)); (case side2 => exact HR0.out); (case side3 => exact HC0.out); rintro e w5 ⟨g371, rfl, hi, hb, hb2⟩; refine ⟨_, rfl, ?_⟩; have HI371 := Aside0.mk (hi); have NB371_367 := Aside0.mk (IsS145.ne_blk hi (blk_below (g := gb367) (o := .cells #[.slice none 0 0, .slice none 0 0] 28 (0, 0)) (Bq_ BK367) hb2) (by decide)); have NB367_371 := Aside0.mk (Ne.symm (IsS145.ne_blk hi (blk_below (g := gb367) (o := .cells #[.slice none 0 0, .slice none 0 0] 28 (0, 0)) (Bq_ BK367) hb2) (by decide))); replace BK367 := Aside0.mk (blk_below (g := gb367) (o := .cells #[.slice none 0 0, .slice none 0 0] 28 (0, 0)) (Bq_ BK367) hb2); replace HB := Aside0.mk (hb); (try clear hb); (try clear hb2); (try clear hk); (try clear hi)) | ((with_reducible refine gate_callee (f := 86) rfl ?_); refine goesL_ (some 5) rfl rfl Try.func86 (by kernel_rfl) rfl #[.pointer (some ⟨g371, 0, none⟩)] rfl Mp_ ?_; (with_reducible refine (spec_l10Any.calls k g371 t368 t369 t370 t372 t375 t378 t379 w _ ?side1 ?side2 A3.out).mono ?_); (case side1 => repeat (first | (with_reducible first | exact HI371.out | apply IsS145.alloc | apply IsS145.drewN | apply IsS145.drew | apply IsS145.set_1 | apply IsS145.set_2 | refine IsS145.far ?_ (Aside0.out (by with_reducible assumption)) _ | refine IsS145.far ?_ NB371_367.out _) | exact HI371.out)); (case side2 => repeat (first | (with_reducible first | exact HB.out | apply below_alloc | apply pw_below_drewN | apply below_drew1 | refine below_set ?_ (IsS145.ge HI371.out) | refine below_set ?_ GE367.out) | exact HB.out)); rintro e w6 ⟨v373, v376, rfl, ho0, ho1, hi, hb, hk⟩; refine ⟨_, rfl, ?_⟩; have HO374 := Aside0.mk (Kd.R_lower ho0 (below_size (by repeat (first | (with_reducible first | exact HB.out | apply below_alloc | apply pw_below_drewN | apply below_drew1 | refine below_set ?_ (IsS145.ge HI371.out) | refine below_set ?_ GE367.out) | exact HB.out)))); have HO377 := Aside0.mk (Kd.R_lower ho1 (below_size (by repeat (first | (with_reducible first | exact HB.out | apply below_alloc | apply pw_below_drewN | apply below_drew1 | refine below_set ?_ (IsS145.ge HI371.out) | refine below_set ?_ GE367.out) | exact HB.out)))); replace BK367 := Aside0.mk (KeepBut.blk hk (g' := gb367) (o := .cells #[.slice none 0 0, .slice none 0 0] 28 (0, 0)) (Bq_ BK367) NB367_371.out (by simp)); replace HI371 := Aside0.mk (hi); replace HB := Aside0.mk (hb); (try clear hb); (try clear hb2); (try clear hk); (try clear hi); (try clear ho0); (try clear ho1); obtain ⟨Ao7, co7, eo7⟩ := Kd.R_slice HO374.out; subst eo7; have hnb8 := NB367_371.out; have hnc8 := NB371_367.out; obtain ⟨hcz9_0, hcz9_1, hfz9_0, hfz9_1⟩ := Bc2_ BK367; obtain ⟨Ao10, co10, eo10⟩ := Kd.R_slice HO377.out; subst eo10))
 refine bodyPost_ret (results_cell_row rfl _ _ gb367 28 #[.slice Ao7 t372.length co7, .slice Ao10 t375.length co10] (0, 0) _ rfl (by (with_reducible repeat (first | refine blk_drewN ?_ _ | refine blk_drew ?_ | refine blk_alloc ?_ _)); refine blk_put (cs := #[.slice Ao7 t372.length co7, .slice none 0 0]) ?_ 1 _ rfl; (with_reducible repeat (first | refine blk_drewN ?_ _ | refine blk_drew ?_ | refine blk_alloc ?_ _)); refine blk_put (cs := #[.slice none 0 0, .slice none 0 0]) ?_ 0 _ rfl; (with_reducible repeat (first | refine blk_drewN ?_ _ | refine blk_drew ?_ | refine blk_alloc ?_ _)); exact BK367.out) Try.underlying28 rfl (by kernel_rfl)) rfl ?_
 exact ⟨_, _, Re_, by (with_reducible repeat (first | apply Kd.R_alloc | apply Kd.R_drewN | apply Kd.R_drew)); exact Kd.R_mono (Kd.R_far (p := ⟨gb367, 1, none⟩) (Kd.R_far (p := ⟨gb367, 0, none⟩) (Kd.R_types HO374.out BK367.out (by decide)) (fun _ hk => hk.2) (.slice Ao7 t372.length co7)) (fun _ hk => hk.2) (.slice Ao10 t375.length co10)) (fun _ hk => trivial), by (with_reducible repeat (first | apply Kd.R_alloc | apply Kd.R_drewN | apply Kd.R_drew)); exact Kd.R_mono (Kd.R_far (p := ⟨gb367, 1, none⟩) (Kd.R_far (p := ⟨gb367, 0, none⟩) (Kd.R_types HO377.out BK367.out (by decide)) (fun _ hk => hk.2) (.slice Ao7 t372.length co7)) (fun _ hk => hk.2) (.slice Ao10 t375.length co10)) (fun _ hk => trivial), by repeat (first | (with_reducible first | exact HB.out | apply below_alloc | apply pw_below_drewN | apply below_drew1 | refine below_set ?_ (IsS145.ge HI371.out) | refine below_set ?_ GE367.out) | exact HB.out)⟩

/-! ### spec_DrawPutIn: function 42 -/
def spec_DrawPutIn.f (k : Nat) (l0 : List Int) : Option (List ByteArray × List Int × ByteArray × Int) := (spec_l01New.f k l0).bind fun bt381 => ((spec_l01Pick.f bt381.1 bt381.2.1 bt381.2.2 (([(⟨#[118]⟩ : ByteArray), (⟨#[110]⟩ : ByteArray), (⟨#[114, 101, 115, 117, 108, 116]⟩ : ByteArray), (⟨#[110, 111, 110, 101]⟩ : ByteArray)] : List ByteArray))).bind fun bt388 => ((spec_l03Val.f bt381.1 bt388.2.1 bt388.2.2).bind fun bt391 => ((spec_l10Any.f k bt381.1 bt391.2.1 bt391.2.2).bind fun bt394 => (some (bt394.1, bt394.2.1, bt388.1, bt391.1)))))
theorem spec_DrawPutIn.mono : ∀ a0 k, LeO (spec_DrawPutIn.f k a0) (spec_DrawPutIn.f (k + 1) a0) := by
 intro a0 k
 unfold spec_DrawPutIn.f
 repeat' first
   | (with_reducible exact spec_l01New.mono _ _)
   | (with_reducible exact spec_l10Any.mono _ _ _ _)
   | (with_reducible exact LeO.refl _)
   | (with_reducible exact LeO.none _)
   | (with_reducible refine LeO.ite ?_ ?_)
   | (with_reducible refine LeO.bind ?_ (fun _ => ?_))
   | exact spec_l01New.mono _ _
   | exact spec_l10Any.mono _ _ _ _
   | exact LeO.none _
   | refine LeO.ite ?_ ?_
   | refine LeO.bind ?_ (fun _ => ?_)
set_option maxHeartbeats 8000000 in
set_option maxRecDepth 100000 in
theorem spec_DrawPutIn.calls (k : Nat) (A0 : Option Addr) (c0 : Nat) (l0 : List Int) (r1 : List ByteArray) (r2 : List Int) (r3 : ByteArray) (r4 : Int) (w : World) (hr0 : Kd.C (Kd.int .u8) w A0 l0.length l0) (hc0 : l0.length ≤ c0) (h : spec_DrawPutIn.f k l0 = some (r1, r2, r3, r4)) :
  Calls Try.prog 42 #[.slice A0 l0.length c0] w fun e w' => ∃ v0_ v1_ : Value, e = .returned (.tuple #[.agg #[v0_, v1_], .string r3, .int .i64 r4]) ∧ Kd.R Kd.string 9 w' w.heap.size (fun _ => True) v0_ r1 ∧ Kd.R (Kd.int .i64) 3 w' w.heap.size (fun _ => True) v1_ r2 ∧ Below w.heap.size w w' := by
 have hu28 := Try.underlying28
 have HR0 := Aside0.mk hr0
 have HC0 := Aside0.mk hc0
 clear hr0 hc0
 have HB := Aside0.mk (Below.refl w.heap.size w)
 have H : ((spec_l01New.f k l0).bind fun bt381 => ((spec_l01Pick.f bt381.1 bt381.2.1 bt381.2.2 (([(⟨#[118]⟩ : ByteArray), (⟨#[110]⟩ : ByteArray), (⟨#[114, 101, 115, 117, 108, 116]⟩ : ByteArray), (⟨#[110, 111, 110, 101]⟩ : ByteArray)] : List ByteArray))).bind fun bt388 => ((spec_l03Val.f bt381.1 bt388.2.1 bt388.2.2).bind fun bt391 => ((spec_l10Any.f k bt381.1 bt391.2.1 bt391.2.2).bind fun bt394 => (some (bt394.1, bt394.2.1, bt388.1, bt391.1)))))) = some (r1, r2, r3, r4) := h
 clear h
 replace H := Option.bind_eq_some_iff.mp H
 obtain ⟨⟨t381, t382, t383⟩, A20, H⟩ := H
 replace H : ((spec_l01Pick.f t381 t382 t383 (([(⟨#[118]⟩ : ByteArray), (⟨#[110]⟩ : ByteArray), (⟨#[114, 101, 115, 117, 108, 116]⟩ : ByteArray), (⟨#[110, 111, 110, 101]⟩ : ByteArray)] : List ByteArray))).bind fun bt388 => ((spec_l03Val.f t381 bt388.2.1 bt388.2.2).bind fun bt391 => ((spec_l10Any.f k t381 bt391.2.1 bt391.2.2).bind fun bt394 => (some (bt394.1, bt394.2.1, bt388.1, bt391.1))))) = some (r1, r2, r3, r4) := H
 have A2 := Aside0.mk A20
 clear A20
 obtain ⟨y385, hy385⟩ : ∃ y_ : List ByteArray, y_ = (([(⟨#[118]⟩ : ByteArray), (⟨#[110]⟩ : ByteArray), (⟨#[114, 101, 115, 117, 108, 116]⟩ : ByteArray), (⟨#[110, 111, 110, 101]⟩ : ByteArray)] : List ByteArray)) := ⟨_, rfl⟩
 replace H : ((spec_l01Pick.f t381 t382 t383 y385).bind fun bt388 => ((spec_l03Val.f t381 bt388.2.1 bt388.2.2).bind fun bt391 => ((spec_l10Any.f k t381 bt391.2.1 bt391.2.2).bind fun bt394 => (some (bt394.1, bt394.2.1, bt388.1, bt391.1))))) = some (r1, r2, r3, r4) := by first | (rw [hy385]; with_reducible exact H) | (have H2_ := (Option.bind_some _ _).symm.trans H; rw [hy385]; with_reducible exact H2_) | (have H2_ := (Option.bind_some _ _).symm.trans H; with_reducible exact H2_) | with_reducible exact H | (rw [hy385]; exact H) | exact H
 have Ny385 := Aside0.mk hy385
 clear hy385
 replace H := Option.bind_eq_some_iff.mp H
 obtain ⟨⟨t388, t389, t390⟩, A30, H⟩ := H
 replace H : ((spec_l03Val.f t381 t389 t390).bind fun bt391 => ((spec_l10Any.f k t381 bt391.2.1 bt391.2.2).bind fun bt394 => (some (bt394.1, bt394.2.1, t388, bt391.1)))) = some (r1, r2, r3, r4) := H
 have A3 := Aside0.mk A30
 clear A30
 replace H := Option.bind_eq_some_iff.mp H
 obtain ⟨⟨t391, t392, t393⟩, A40, H⟩ := H
 replace H : ((spec_l10Any.f k t381 t392 t393).bind fun bt394 => (some (bt394.1, bt394.2.1, t388, t391))) = some (r1, r2, r3, r4) := H
 have A4 := Aside0.mk A40
 clear A40
 replace H := Option.bind_eq_some_iff.mp H
 obtain ⟨⟨t394, t397, t400, t401⟩, A50, H⟩ := H
 replace H : (some (t394, t397, t388, t391)) = some (r1, r2, r3, r4) := H
 have A5 := Aside0.mk A50
 clear A50
 simp only [Option.some.injEq, Prod.mk.injEq] at H
 obtain ⟨rfl, rfl, rfl, rfl⟩ := H
 go_enter Try.func42, Try.ntmps42
 go_wp2_with (first | ((with_reducible refine gate_dst (N := 2) rfl ?_); refine box_event ?hg (N := 2) ?hd (cs := #[.slice none 0 0, .slice none 0 0]) (t := 28) ?hr ?_; (case hd => rfl); (case hg => rfl); (case hr => first | (go_simp; done) | (go_simp; rfl)); intro gb380 hg w6 hbox hb; have BK380 := Aside0.mk (hbox); have GW380 := Hg_ HB hg; have GE380 := GW380; replace HB := Hs_ HB hb; clear hb hbox hg) | ((with_reducible refine gate_callee (f := 83) rfl ?_); refine goesL_ (some 9) rfl rfl Try.func83 (by kernel_rfl) rfl #[.slice A0 l0.length c0] rfl Mp_ ?_; (with_reducible refine (spec_l01New.calls k _ _ l0 t381 t382 t383 w _ ?side1 ?side2 ?side3 A2.out).mono ?_); (case side1 => repeat (first | (with_reducible first | exact HB.out | apply below_alloc | apply pw_below_drewN | apply below_drew1 | refine below_set ?_ GE380.out) | exact HB.out)); (case side2 => exact HR0.out); (case side3 => exact HC0.out); rintro e w7 ⟨g384, rfl, hi, hb, hb2⟩; refine ⟨_, rfl, ?_⟩; have HI384 := Aside0.mk (hi); have NB384_380 := Aside0.mk (IsS145.ne_blk hi (blk_below (g := gb380) (o := .cells #[.slice none 0 0, .slice none 0 0] 28 (0, 0)) (Bq_ BK380) hb2) (by decide)); have NB380_384 := Aside0.mk (Ne.symm (IsS145.ne_blk hi (blk_below (g := gb380) (o := .cells #[.slice none 0 0, .slice none 0 0] 28 (0, 0)) (Bq_ BK380) hb2) (by decide))); replace BK380 := Aside0.mk (blk_below (g := gb380) (o := .cells #[.slice none 0 0, .slice none 0 0] 28 (0, 0)) (Bq_ BK380) hb2); replace HB := Aside0.mk (hb); (try clear hb); (try clear hb2); (try clear hk); (try clear hi)) | ((with_reducible refine gate_dst (N := 11) rfl ?_); refine Kd.R_lit Kd.string _ 9 ?hg (N := 11) ?hd (xs := ([(⟨#[118]⟩ : ByteArray), (⟨#[110]⟩ : ByteArray), (⟨#[114, 101, 115, 117, 108, 116]⟩ : ByteArray), (⟨#[110, 111, 110, 101]⟩ : ByteArray)] : List ByteArray)) (inner := [.string (⟨#[118]⟩ : ByteArray), .string (⟨#[110]⟩ : ByteArray), .string (⟨#[114, 101, 115, 117, 108, 116]⟩ : ByteArray), .string (⟨#[110, 111, 110, 101]⟩ : ByteArray)]) (ok := fun _ => True) (okp := fun _ => True) ?hr ?hp (fun _ hk => hk) trivial (Below.refl _ _) (Nat.le_refl _) (by simp) ?_; (case hd => rfl); (case hg => rfl); (case hr => first | (go_simp; done) | (go_simp; rfl)); (case hp => exact (Reps.one (show Kd.M Kd.string _ _ _ (⟨#[118]⟩ : ByteArray) [.string (⟨#[118]⟩ : ByteArray)] from rfl) (Reps.one (show Kd.M Kd.string _ _ _ (⟨#[110]⟩ : ByteArray) [.string (⟨#[110]⟩ : ByteArray)] from rfl) (Reps.one (show Kd.M Kd.string _ _ _ (⟨#[114, 101, 115, 117, 108, 116]⟩ : ByteArray) [.string (⟨#[114, 101, 115, 117, 108, 116]⟩ : ByteArray)] from rfl) (Reps.one (show Kd.M Kd.string _ _ _ (⟨#[110, 111, 110, 101]⟩ : ByteArray) [.string (⟨#[110, 111, 110, 101]⟩ : ByteArray)] from rfl) (Reps.none _ _)))))); intro v386 w8 ho9 hb hg_ hnew_; clear hg_ hnew_; (first | rw [← Ny385.out] at ho9 | (simp only [Int.reduceToNat] at ho9; rw [← Ny385.out] at ho9)); have n0_ := Aside0.mk (Kd.R_lower ho9 (below_size (by repeat (first | (with_reducible first | exact HB.out | apply below_alloc | apply pw_below_drewN | apply below_drew1 | refine below_set ?_ (IsS145.ge HI384.out) | refine below_set ?_ GE380.out) | exact HB.out)))); have n1_ := Bb_ BK380 hb; have n2_ := Aside0.mk (IsS145.below (by repeat (first | (with_reducible first | exact HI384.out | apply IsS145.alloc | apply IsS145.drewN | apply IsS145.drew | apply IsS145.set_1 | apply IsS145.set_2 | refine IsS145.far ?_ (Aside0.out (by with_reducible assumption)) _ | refine IsS145.far ?_ NB384_380.out _) | exact HI384.out)) hb); have n3_ := Aside0.mk (below_step (by repeat (first | (with_reducible first | exact HB.out | apply below_alloc | apply pw_below_drewN | apply below_drew1 | refine below_set ?_ (IsS145.ge HI384.out) | refine below_set ?_ GE380.out) | exact HB.out)) hb); clear BK380; clear HI384; clear HB; have HO387 := n0_; have BK380 := n1_; have HI384 := n2_; have HB := n3_; clear n0_ n1_ n2_ n3_; clear hb ho9; obtain ⟨Ao10, co10, eo10⟩ := Kd.R_slice HO387.out; subst eo10) | ((with_reducible refine gate_callee (f := 87) rfl ?_); refine goesL_ (some 12) rfl rfl Try.func87 (by kernel_rfl) rfl #[.pointer (some ⟨g384, 0, none⟩), .slice Ao10 y385.length co10] rfl Mp_ ?_; (with_reducible refine (spec_l01Pick.calls g384 t381 t382 t383 _ _ y385 t388 t389 t390 w _ ?side1 ?side2 ?side3 ?side4 ?side5 A3.out).mono ?_); (case side1 => repeat (first | (with_reducible first | exact HI384.out | apply IsS145.alloc | apply IsS145.drewN | apply IsS145.drew | apply IsS145.set_1 | apply IsS145.set_2 | refine IsS145.far ?_ (Aside0.out (by with_reducible assumption)) _ | refine IsS145.far ?_ NB384_380.out _) | exact HI384.out)); (case side2 => repeat (first | (with_reducible first | exact HB.out | apply below_alloc | apply pw_below_drewN | apply below_drew1 | refine below_set ?_ (IsS145.ge HI384.out) | refine below_set ?_ GE380.out) | exact HB.out)); (case side3 => exact Cq_ (Kd.R_reads' HO387.out).2.2); (case side4 => exact (Kd.R_reads' HO387.out).2.1); (case side5 => exact far_slice (IsS145.own_ne HI384.out HO387.out (by decide))); rintro e w11 ⟨rfl, hi, hb, hk⟩; refine ⟨_, rfl, ?_⟩; replace BK380 := Aside0.mk (KeepBut.blk hk (g' := gb380) (o := .cells #[.slice none 0 0, .slice none 0 0] 28 (0, 0)) (Bq_ BK380) NB380_384.out (by simp)); replace HO387 := Aside0.mk (Kd.R_mono (Kd.R_keep (IsS145.apart (show IsS145 w _ g384 t381 t382 t383 from by repeat (first | (with_reducible first | exact HI384.out | apply IsS145.alloc | apply IsS145.drewN | apply IsS145.drew | apply IsS145.set_1 | apply IsS145.set_2 | refine IsS145.far ?_ (Aside0.out (by with_reducible assumption)) _ | refine IsS145.far ?_ NB384_380.out _) | exact HI384.out)) (Rq_ HO387) (by decide)) hk (fun _ h => h.2)) (fun _ h => h.1)); replace HI384 := Aside0.mk (hi); replace HB := Aside0.mk (hb); (try clear hb); (try clear hb2); (try clear hk); (try clear hi)) | ((with_reducible refine gate_callee (f := 88) rfl ?_); refine goesL_ (some 14) rfl rfl Try.func88 (by kernel_rfl) rfl #[.pointer (some ⟨g384, 0, none⟩)] rfl Mp_ ?_; (with_reducible refine (spec_l03Val.calls g384 t381 t389 t390 t391 t392 t393 w _ ?side1 ?side2 A4.out).mono ?_); (case side1 => repeat (first | (with_reducible first | exact HI384.out | apply IsS145.alloc | apply IsS145.drewN | apply IsS145.drew | apply IsS145.set_1 | apply IsS145.set_2 | refine IsS145.far ?_ (Aside0.out (by with_reducible assumption)) _ | refine IsS145.far ?_ NB384_380.out _) | exact HI384.out)); (case side2 => repeat (first | (with_reducible first | exact HB.out | apply below_alloc | apply pw_below_drewN | apply below_drew1 | refine below_set ?_ (IsS145.ge HI384.out) | refine below_set ?_ GE380.out) | exact HB.out)); rintro e w12 ⟨rfl, hi, hb, hk⟩; refine ⟨_, rfl, ?_⟩; replace BK380 := Aside0.mk (KeepBut.blk hk (g' := gb380) (o := .cells #[.slice none 0 0, .slice none 0 0] 28 (0, 0)) (Bq_ BK380) NB380_384.out (by simp)); replace HO387 := Aside0.mk (Kd.R_mono (Kd.R_keep (IsS145.apart (show IsS145 w _ g384 t381 t389 t390 from by repeat (first | (with_reducible first | exact HI384.out | apply IsS145.alloc | apply IsS145.drewN | apply IsS145.drew | apply IsS145.set_1 | apply IsS145.set_2 | refine IsS145.far ?_ (Aside0.out (by with_reducible assumption)) _ | refine IsS145.far ?_ NB384_380.out _) | exact HI384.out)) (Rq_ HO387) (by decide)) hk (fun _ h => h.2)) (fun _ h => h.1)); replace HI384 := Aside0.mk (hi); replace HB := Aside0.mk (hb); (try clear hb); (try clear hb2); (try clear hk); (try clear hi)) | ((with_reducible refine gate_callee (f := 86) rfl ?_); refine goesL_ (some 16) rfl rfl Try.func86 (by kernel_rfl) rfl #[.pointer (some ⟨g384, 0, none⟩)] rfl Mp_ ?_; (with_reducible refine (spec_l10Any.calls k g384 t381 t392 t393 t394 t397 t400 t401 w _ ?side1 ?side2 A5.out).mono ?_); (case side1 => repeat (first | (with_reducible first | exact HI384.out | apply IsS145.alloc | apply IsS145.drewN | apply IsS145.drew | apply IsS145.set_1 | apply IsS145.set_2 | refine IsS145.far ?_ (Aside0.out (by with_reducible assumption)) _ | refine IsS145.far ?_ NB384_380.out _) | exact HI384.out)); (case side2 => repeat (first | (with_reducible first | exact HB.out | apply below_alloc | apply pw_below_drewN | apply below_drew1 | refine below_set ?_ (IsS145.ge HI384.out) | refine below_set ?_ GE380.out) | exact HB.out)); rintro e w13 ⟨v395, v398, rfl, ho0, ho1, hi, hb, hk⟩; refine ⟨_, rfl, ?_⟩; have HO396 := Aside0.mk (Kd.R_lower (Kd.R_new' ho0 (Kd.R_lt (Rq_ HO387))) (below_size (by repeat (first | (with_reducible first | exact HB.out | apply below_alloc | apply pw_below_drewN | apply below_drew1 | refine below_set ?_ (IsS145.ge HI384.out) | refine below_set ?_ GE380.out) | exact HB.out)))); have HO399 := Aside0.mk (Kd.R_lower ho1 (below_size (by repeat (first | (with_reducible first | exact HB.out | apply below_alloc | apply pw_below_drewN | apply below_drew1 | refine below_set ?_ (IsS145.ge HI384.out) | refine below_set ?_ GE380.out) | exact HB.out)))); replace BK380 := Aside0.mk (KeepBut.blk hk (g' := gb380) (o := .cells #[.slice none 0 0, .slice none 0 0] 28 (0, 0)) (Bq_ BK380) NB380_384.out (by simp)); replace HO387 := Aside0.mk (Kd.R_mono (Kd.R_told (Kd.R_oldK (IsS145.apart (show IsS145 w _ g384 t381 t392 t393 from by repeat (first | (with_reducible first | exact HI384.out | apply IsS145.alloc | apply IsS145.drewN | apply IsS145.drew | apply IsS145.set_1 | apply IsS145.set_2 | refine IsS145.far ?_ (Aside0.out (by with_reducible assumption)) _ | refine IsS145.far ?_ NB384_380.out _) | exact HI384.out)) (Rq_ HO387) (by decide)) hk) (Kd.R_base ho0)) (fun _ h_ => h_.1)); replace HI384 := Aside0.mk (hi); replace HB := Aside0.mk (hb); (try clear hb); (try clear hb2); (try clear hk); (try clear hi); (try clear ho0); (try clear ho1); obtain ⟨Ao14, co14, eo14⟩ := Kd.R_slice HO396.out; subst eo14; have hnb15 := NB380_384.out; have hnc15 := NB384_380.out; obtain ⟨hcz16_0, hcz16_1, hfz16_0, hfz16_1⟩ := Bc2_ BK380; obtain ⟨Ao17, co17, eo17⟩ := Kd.R_slice HO399.out; subst eo17))
 refine bodyPost_ret (results_ctt rfl _ _ gb380 28 #[.slice Ao14 t394.length co14, .slice Ao17 t397.length co17] (0, 0) _ rfl (by (with_reducible repeat (first | refine blk_drewN ?_ _ | refine blk_drew ?_ | refine blk_alloc ?_ _)); refine blk_put (cs := #[.slice Ao14 t394.length co14, .slice none 0 0]) ?_ 1 _ rfl; (with_reducible repeat (first | refine blk_drewN ?_ _ | refine blk_drew ?_ | refine blk_alloc ?_ _)); refine blk_put (cs := #[.slice none 0 0, .slice none 0 0]) ?_ 0 _ rfl; (with_reducible repeat (first | refine blk_drewN ?_ _ | refine blk_drew ?_ | refine blk_alloc ?_ _)); exact BK380.out) Try.underlying28 rfl (by kernel_rfl)) rfl ?_
 exact ⟨_, _, Re_, by (with_reducible repeat (first | apply Kd.R_alloc | apply Kd.R_drewN | apply Kd.R_drew)); exact Kd.R_mono (Kd.R_far (p := ⟨gb380, 1, none⟩) (Kd.R_far (p := ⟨gb380, 0, none⟩) (Kd.R_types HO396.out BK380.out (by decide)) (fun _ hk => hk.2) (.slice Ao14 t394.length co14)) (fun _ hk => hk.2) (.slice Ao17 t397.length co17)) (fun _ hk => trivial), by (with_reducible repeat (first | apply Kd.R_alloc | apply Kd.R_drewN | apply Kd.R_drew)); exact Kd.R_mono (Kd.R_far (p := ⟨gb380, 1, none⟩) (Kd.R_far (p := ⟨gb380, 0, none⟩) (Kd.R_types HO399.out BK380.out (by decide)) (fun _ hk => hk.2) (.slice Ao14 t394.length co14)) (fun _ hk => hk.2) (.slice Ao17 t397.length co17)) (fun _ hk => trivial), by repeat (first | (with_reducible first | exact HB.out | apply below_alloc | apply pw_below_drewN | apply below_drew1 | refine below_set ?_ (IsS145.ge HI384.out) | refine below_set ?_ GE380.out) | exact HB.out)⟩

/-! ### laws_sameTexts: function 89 -/
def laws_sameTexts.l0 : Nat → List ByteArray → List ByteArray → Int → Option (Bool)
 | 0, _, _, _ => none
 | k + 1, x0, x1, x5 => if x5 < (x0.length : Int) then (if 0 ≤ x5 then (if x5 < (x1.length : Int) then (if (rdOf ByteArray.empty x0 x5).toList = (rdOf ByteArray.empty x1 x5).toList then (laws_sameTexts.l0 k x0 x1 (wrap64 (x5 + 1))) else (some false)) else (none)) else (none)) else (some true)
def laws_sameTexts.f (k : Nat) (l0 : List ByteArray) (l1 : List ByteArray) : Option (Bool) := if (l0.length : Int) = (l1.length : Int) then (laws_sameTexts.l0 k l0 l1 0) else (some false)
theorem laws_sameTexts.mono_l : ∀ k, (∀ y0 y1 y2, LeO (laws_sameTexts.l0 k y0 y1 y2) (laws_sameTexts.l0 (k + 1) y0 y1 y2))
 | 0 => fun _ _ _ r h => by simp [laws_sameTexts.l0] at h
 | k + 1 => by
  have ih0 := laws_sameTexts.mono_l k
  ·intro y0 y1 y2
   unfold laws_sameTexts.l0
   repeat' first
   | (with_reducible exact ih0 _ _ _)
   | (with_reducible exact LeO.refl _)
   | (with_reducible exact LeO.none _)
   | (with_reducible refine LeO.ite ?_ ?_)
   | (with_reducible refine LeO.bind ?_ (fun _ => ?_))
   | exact ih0 _ _ _
   | exact LeO.none _
   | refine LeO.ite ?_ ?_
   | refine LeO.bind ?_ (fun _ => ?_)
theorem laws_sameTexts.mono : ∀ a0 a1 k, LeO (laws_sameTexts.f k a0 a1) (laws_sameTexts.f (k + 1) a0 a1) := by
 intro a0 a1 k
 have ih0 := laws_sameTexts.mono_l k
 unfold laws_sameTexts.f
 repeat' first
   | (with_reducible exact ih0 _ _ _)
   | (with_reducible exact LeO.refl _)
   | (with_reducible exact LeO.none _)
   | (with_reducible refine LeO.ite ?_ ?_)
   | (with_reducible refine LeO.bind ?_ (fun _ => ?_))
   | exact ih0 _ _ _
   | exact LeO.none _
   | refine LeO.ite ?_ ?_
   | refine LeO.bind ?_ (fun _ => ?_)
set_option maxHeartbeats 8000000 in
set_option maxRecDepth 100000 in
theorem laws_sameTexts.calls (k : Nat) (A0 : Option Addr) (c0 : Nat) (l0 : List ByteArray) (A1 : Option Addr) (c1 : Nat) (l1 : List ByteArray) (r : Bool) (w : World) (hr0 : Kd.C Kd.string w A0 l0.length l0) (hc0 : l0.length ≤ c0) (hr1 : Kd.C Kd.string w A1 l1.length l1) (hc1 : l1.length ≤ c1) (h : laws_sameTexts.f k l0 l1 = some r) :
  Calls Try.prog 89 #[.slice A0 l0.length c0, .slice A1 l1.length c1] w fun e w' => e = .returned (.bool r) ∧ Drawn0 w w' := by
 have HR0 := Aside0.mk hr0
 have HC0 := Aside0.mk hc0
 clear hr0 hc0
 have HR1 := Aside0.mk hr1
 have HC1 := Aside0.mk hc1
 clear hr1 hc1
 have H : (if (l0.length : Int) = (l1.length : Int) then (laws_sameTexts.l0 k l0 l1 0) else (some false)) = some r := h
 clear h
 by_cases c3 : (l0.length : Int) = (l1.length : Int)
 ·rw [if_pos c3] at H
  have c3b0 : ((l0.length : Int) == (l1.length : Int)) = true := beq_iff_eq.mpr c3
  have c3b1 : ((l0.length : Int) != (l1.length : Int)) = false := bne_eq_false_iff_eq.mpr c3
  have c3b2 : (l0.length == l1.length) = true := by first | simpa using c3 | (simp at c3 ⊢; omega)
  clear c3
  have H' := Aside0.mk H
  clear H
  go_enter Try.func89, Try.ntmps89
  go_wp2
  repeat (go_quiet (fail); try go_wp2)
  go_loopg [5] k (fun kq v5 w' => ∃ (x5_1 : Int), v5 = .int .i64 x5_1 ∧ Aside0 (laws_sameTexts.l0 kq l0 l1 x5_1 = some r) ∧ Aside0 (kq ≤ k) ∧ Drawn0 w w')
  case atStart => exact ⟨(0), Rr_, H', ⟨Nat.le_refl _⟩, by repeat (first | exact Drawn0.refl _ | apply Drawn0.step)⟩
  case round =>
   clear H'
   try clear c1
   try clear p2
   try clear c3
   try clear c3b0
   try clear c3b1
   try clear c3b2
   obtain ⟨x5_1, rfl, HA, HK1, ⟨m1, rfl⟩⟩ := hrel
   cases gk with
   | zero => exact absurd HA.out (by simp [laws_sameTexts.l0])
   | succ k1 =>
    have H := HA.out
    clear HA
    simp only [laws_sameTexts.l0] at H
    by_cases c4 : x5_1 < (l0.length : Int)
    ·rw [if_pos c4] at H
     have c4b0 : decide (x5_1 < (l0.length : Int)) = true := decide_eq_true c4
     clear c4
     by_cases c5 : 0 ≤ x5_1
     ·rw [if_pos c5] at H
      have c5b0 : decide (0 ≤ x5_1) = true := decide_eq_true c5
      clear c5
      by_cases c6 : x5_1 < (l1.length : Int)
      ·rw [if_pos c6] at H
       have c6b0 : decide (x5_1 < (l1.length : Int)) = true := decide_eq_true c6
       clear c6
       by_cases c7 : (rdOf ByteArray.empty l0 x5_1).toList = (rdOf ByteArray.empty l1 x5_1).toList
       ·rw [if_pos c7] at H
        have c7b0 : ((rdOf ByteArray.empty l0 x5_1).toList == (rdOf ByteArray.empty l1 x5_1).toList) = true := beq_iff_eq.mpr c7
        have c7b1 : ((rdOf ByteArray.empty l0 x5_1).toList != (rdOf ByteArray.empty l1 x5_1).toList) = false := bne_eq_false_iff_eq.mpr c7
        clear c7
        have H' := Aside0.mk H
        clear H
        have p402 : 0 ≤ (x5_1 : Int) := of_decide_eq_true As_
        have q402 : x5_1 < (l0.length : Int) := of_decide_eq_true As_
        obtain ⟨ad402, e402, hx402_0⟩ := Kd.at_string HR0.out x5_1 p402 q402
        cases e402
        replace p402 := eq_true p402
        replace q402 := eq_true q402
        have p403 : 0 ≤ (x5_1 : Int) := of_decide_eq_true As_
        have q403 : x5_1 < (l1.length : Int) := of_decide_eq_true As_
        obtain ⟨ad403, e403, hx403_0⟩ := Kd.at_string HR1.out x5_1 p403 q403
        cases e403
        replace p403 := eq_true p403
        replace q403 := eq_true q403
        go_wp2
        repeat (go_quiet (fail); try go_wp2)
        go_roundg k1
        case measure => have := HK1.out; omega
        case rel => exact ⟨(wrap64 (x5_1 + 1)), Rr_, H', ⟨by have := HK1.out; omega⟩, by repeat (first | exact Drawn0.refl _ | apply Drawn0.step)⟩
       ·rw [if_neg c7] at H
        have c7b0 : ((rdOf ByteArray.empty l0 x5_1).toList == (rdOf ByteArray.empty l1 x5_1).toList) = false := beq_eq_false_iff_ne.mpr c7
        have c7b1 : ((rdOf ByteArray.empty l0 x5_1).toList != (rdOf ByteArray.empty l1 x5_1).toList) = true := bne_iff_ne.mpr c7
        obtain rfl := Option.some.inj H
        have p402 : 0 ≤ (x5_1 : Int) := of_decide_eq_true As_
        have q402 : x5_1 < (l0.length : Int) := of_decide_eq_true As_
        obtain ⟨ad402, e402, hx402_0⟩ := Kd.at_string HR0.out x5_1 p402 q402
        cases e402
        replace p402 := eq_true p402
        replace q402 := eq_true q402
        have p403 : 0 ≤ (x5_1 : Int) := of_decide_eq_true As_
        have q403 : x5_1 < (l1.length : Int) := of_decide_eq_true As_
        obtain ⟨ad403, e403, hx403_0⟩ := Kd.at_string HR1.out x5_1 p403 q403
        cases e403
        replace p403 := eq_true p403
        replace q403 := eq_true q403
        go_wp2
        repeat (go_quiet (fail); try go_wp2)
        go_ret
        exact ⟨by first | rfl | (simp; done) | (simp [*]; done), by repeat (first | exact Drawn0.refl _ | apply Drawn0.step)⟩
      ·rw [if_neg c6] at H
       exact absurd H (by simp)
     ·rw [if_neg c5] at H
      exact absurd H (by simp)
    ·rw [if_neg c4] at H
     have c4b0 : decide (x5_1 < (l0.length : Int)) = false := decide_eq_false c4
     clear c4
     obtain rfl := Option.some.inj H
     go_wp2
     repeat (go_quiet (fail); try go_wp2)
     go_ret
     exact ⟨by first | rfl | (simp; done) | (simp [*]; done), by repeat (first | exact Drawn0.refl _ | apply Drawn0.step)⟩
 ·rw [if_neg c3] at H
  have c3b0 : ((l0.length : Int) == (l1.length : Int)) = false := beq_eq_false_iff_ne.mpr c3
  have c3b1 : ((l0.length : Int) != (l1.length : Int)) = true := bne_iff_ne.mpr c3
  have c3b2 : (l0.length == l1.length) = false := by first | simpa using c3 | (simp at c3 ⊢; omega)
  obtain rfl := Option.some.inj H
  go_enter Try.func89, Try.ntmps89
  go_wp2
  repeat (go_quiet (fail); try go_wp2)
  go_ret
  exact ⟨by first | rfl | (simp; done) | (simp [*]; done), by repeat (first | exact Drawn0.refl _ | apply Drawn0.step)⟩

end Go.Proofs.Ytegeahiflkjhmaa.PFnEnvs
