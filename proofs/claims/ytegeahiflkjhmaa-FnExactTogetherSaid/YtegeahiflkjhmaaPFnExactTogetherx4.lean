/- The machine side of the law FnExactTogether: for each function that it reaches, a Lean function and its contract. Written by a program of this session's over the kit's print. No condition. -/
import Derived.Test.YtegeahiflkjhmaaCmp
import Derived.Test.YtegeahiflkjhmaaPFnExactTogetherx0
import Derived.Test.YtegeahiflkjhmaaPFnExactTogetherx3
namespace Go.Proofs.Ytegeahiflkjhmaa.PFnExactTogether
open Go.RowKit Go.Proofs.YtegeahiflkjhmaaW.PrintWords Go.Proofs.YtegeahiflkjhmaaW.PrintLast Go.Proofs.YtegeahiflkjhmaaW.PrintMore Go.Proofs.Ytegeahiflkjhmaa.Cmp
attribute [local go_sem] max2_int min2_int max_two min_two max_three min_three max_four min_four   -- for this text's walks alone
set_option linter.unusedVariables false
set_option linter.unusedSimpArgs false

/-! ### spec_Together: function 22 -/
mutual
def spec_Together.l0 : Nat → Int → List ByteArray → List Int → List ByteArray → List Int → List ByteArray → List Int → Option (List ByteArray × List Int)
 | 0, _, _, _, _, _, _, _ => none
 | k + 1, x6, x165000, x165001, x166000, x166001, x174000, x174001 => if x6 < (x166000.length : Int) then (spec_Together.j1 k x6 (decide (x6 < (x166001.length : Int))) x165000 x165001 x166000 x166001 x174000 x174001) else (spec_Together.j1 k x6 false x165000 x165001 x166000 x166001 x174000 x174001)
def spec_Together.j1 : Nat → Int → Bool → List ByteArray → List Int → List ByteArray → List Int → List ByteArray → List Int → Option (List ByteArray × List Int)
 | 0, _, _, _, _, _, _, _, _ => none
 | k + 1, x6, x20, x165000, x165001, x166000, x166001, x174000, x174001 => if x20 = true then (if 0 ≤ x6 then (if x6 < (x166000.length : Int) then ((spec_l08In.f k x165000 (rdOf ByteArray.empty x166000 x6)).bind fun t175 => (if t175 = true then (spec_Together.l0 k (wrap64 (x6 + 1)) x165000 x165001 x166000 x166001 x174000 x174001) else (if x174000.length < 8796093022208 then (if x6 < (x166001.length : Int) then (if x174001.length < 17592186044416 then (spec_Together.l0 k (wrap64 (x6 + 1)) x165000 x165001 x166000 x166001 (x174000 ++ [rdOf ByteArray.empty x166000 x6]) (x174001 ++ [rd x166001 x6])) else (none)) else (none)) else (none)))) else (none)) else (none)) else (some (x174000, x174001))
end
def spec_Together.f (k : Nat) (l0_0 : List ByteArray) (l0_1 : List Int) (l1_0 : List ByteArray) (l1_1 : List Int) : Option (List ByteArray × List Int) := (spec_l10Copy.f l0_0 l0_1).bind fun bt167 => (spec_Together.l0 k 0 l0_0 l0_1 l1_0 l1_1 bt167.1 bt167.2)
theorem spec_Together.mono_l : ∀ k, (∀ y0 y1 y2 y3 y4 y5 y6, LeO (spec_Together.l0 k y0 y1 y2 y3 y4 y5 y6) (spec_Together.l0 (k + 1) y0 y1 y2 y3 y4 y5 y6)) ∧ (∀ y0 y1 y2 y3 y4 y5 y6 y7, LeO (spec_Together.j1 k y0 y1 y2 y3 y4 y5 y6 y7) (spec_Together.j1 (k + 1) y0 y1 y2 y3 y4 y5 y6 y7))
 | 0 => ⟨fun _ _ _ _ _ _ _ r h => by simp [spec_Together.l0] at h, fun _ _ _ _ _ _ _ _ r h => by simp [spec_Together.j1] at h⟩
 | k + 1 => by
  obtain ⟨ih0, ih1⟩ := spec_Together.mono_l k
  refine ⟨?_, ?_⟩
  ·intro y0 y1 y2 y3 y4 y5 y6
   unfold spec_Together.l0
   repeat' first
   | (with_reducible exact ih0 _ _ _ _ _ _ _)
   | (with_reducible exact ih1 _ _ _ _ _ _ _ _)
   | (with_reducible exact spec_l08In.mono _ _ _)
   | (with_reducible exact LeO.refl _)
   | (with_reducible exact LeO.none _)
   | (with_reducible refine LeO.ite ?_ ?_)
   | (with_reducible refine LeO.bind ?_ (fun _ => ?_))
   | exact ih0 _ _ _ _ _ _ _
   | exact ih1 _ _ _ _ _ _ _ _
   | exact spec_l08In.mono _ _ _
   | exact LeO.none _
   | refine LeO.ite ?_ ?_
   | refine LeO.bind ?_ (fun _ => ?_)
  ·intro y0 y1 y2 y3 y4 y5 y6 y7
   unfold spec_Together.j1
   repeat' first
   | (with_reducible exact ih0 _ _ _ _ _ _ _)
   | (with_reducible exact ih1 _ _ _ _ _ _ _ _)
   | (with_reducible exact spec_l08In.mono _ _ _)
   | (with_reducible exact LeO.refl _)
   | (with_reducible exact LeO.none _)
   | (with_reducible refine LeO.ite ?_ ?_)
   | (with_reducible refine LeO.bind ?_ (fun _ => ?_))
   | exact ih0 _ _ _ _ _ _ _
   | exact ih1 _ _ _ _ _ _ _ _
   | exact spec_l08In.mono _ _ _
   | exact LeO.none _
   | refine LeO.ite ?_ ?_
   | refine LeO.bind ?_ (fun _ => ?_)
theorem spec_Together.mono : ∀ a0 a1 a2 a3 k, LeO (spec_Together.f k a0 a1 a2 a3) (spec_Together.f (k + 1) a0 a1 a2 a3) := by
 intro a0 a1 a2 a3 k
 obtain ⟨ih0, ih1⟩ := spec_Together.mono_l k
 unfold spec_Together.f
 repeat' first
   | (with_reducible exact ih0 _ _ _ _ _ _ _)
   | (with_reducible exact ih1 _ _ _ _ _ _ _ _)
   | (with_reducible exact spec_l08In.mono _ _ _)
   | (with_reducible exact LeO.refl _)
   | (with_reducible exact LeO.none _)
   | (with_reducible refine LeO.ite ?_ ?_)
   | (with_reducible refine LeO.bind ?_ (fun _ => ?_))
   | exact ih0 _ _ _ _ _ _ _
   | exact ih1 _ _ _ _ _ _ _ _
   | exact spec_l08In.mono _ _ _
   | exact LeO.none _
   | refine LeO.ite ?_ ?_
   | refine LeO.bind ?_ (fun _ => ?_)
def spec_Together.T5 : Bool × List (List Nat × List Nat) := (true, [([], []), ([0], [0]), ([], []), ([2], [2]), ([], []), ([3, 4], [3, 4]), ([5], [5]), ([1, 6], [1, 6]), ([7], [7])])
def spec_Together.B5 : List Nat := [0, 1, 0, 4, 0, 28, 60, 127, 255]
theorem spec_Together.tab5 : rtab .any (opsOf Try.f22 5) = spec_Together.T5 := by kernel_rfl
theorem spec_Together.bits5 : waitsOk spec_Together.T5.2 spec_Together.B5 = true := by kernel_rfl
def spec_Together.T6 : Bool × List (List Nat × List Nat) := (true, [([], []), ([0], [0]), ([], []), ([2], [2]), ([], []), ([3, 4], [3, 4]), ([5], [5]), ([6], [6]), ([1, 7], [1, 7]), ([0, 1, 2, 3, 4, 5, 6, 7, 8], []), ([9, 8, 8, 0, 1, 2, 3, 4, 5, 6, 7, 8], [8, 9])])
def spec_Together.B6 : List Nat := [0, 1, 0, 4, 0, 28, 60, 124, 255, 511, 1023]
theorem spec_Together.tab6 : rtab .any (opsOf Try.f22 6) = spec_Together.T6 := by kernel_rfl
theorem spec_Together.bits6 : waitsOk spec_Together.T6.2 spec_Together.B6 = true := by kernel_rfl
def spec_Together.T7 : Bool × List (List Nat × List Nat) := (true, [([], []), ([0], [0]), ([], []), ([2], [2]), ([], []), ([3, 4], [3, 4]), ([5], [5]), ([6], [6]), ([1, 7], [1, 7]), ([0, 1, 2, 3, 4, 5, 6, 7, 8], []), ([9, 8, 8, 0, 1, 2, 3, 4, 5, 6, 7, 8], [8, 9])])
def spec_Together.B7 : List Nat := [0, 1, 0, 4, 0, 28, 60, 124, 255, 511, 1023]
theorem spec_Together.tab7 : rtab .any (opsOf Try.f22 7) = spec_Together.T7 := by kernel_rfl
theorem spec_Together.bits7 : waitsOk spec_Together.T7.2 spec_Together.B7 = true := by kernel_rfl
set_option maxHeartbeats 8000000 in
set_option maxRecDepth 100000 in
theorem spec_Together.calls (k : Nat) (A0_0 : Option Addr) (c0_0 : Nat) (l0_0 : List ByteArray) (A0_1 : Option Addr) (c0_1 : Nat) (l0_1 : List Int) (A1_0 : Option Addr) (c1_0 : Nat) (l1_0 : List ByteArray) (A1_1 : Option Addr) (c1_1 : Nat) (l1_1 : List Int) (r1 : List ByteArray) (r2 : List Int) (w : World) (hr0_0 : Kd.C Kd.string w A0_0 l0_0.length l0_0) (hc0_0 : l0_0.length ≤ c0_0) (hr0_1 : Kd.C (Kd.int .i64) w A0_1 l0_1.length l0_1) (hc0_1 : l0_1.length ≤ c0_1) (hr1_0 : Kd.C Kd.string w A1_0 l1_0.length l1_0) (hc1_0 : l1_0.length ≤ c1_0) (hr1_1 : Kd.C (Kd.int .i64) w A1_1 l1_1.length l1_1) (hc1_1 : l1_1.length ≤ c1_1) (h : spec_Together.f k l0_0 l0_1 l1_0 l1_1 = some (r1, r2)) :
  Calls Try.prog 22 #[.agg #[.slice A0_0 l0_0.length c0_0, .slice A0_1 l0_1.length c0_1], .agg #[.slice A1_0 l1_0.length c1_0, .slice A1_1 l1_1.length c1_1]] w fun e w' => ∃ v0_ v1_ : Value, e = .returned (.agg #[v0_, v1_]) ∧ Kd.R Kd.string 9 w' w.heap.size (fun _ => True) v0_ r1 ∧ Kd.R (Kd.int .i64) 3 w' w.heap.size (fun _ => True) v1_ r2 ∧ Below w.heap.size w w' := by
 have hu28 := Try.underlying28
 have HR0_0 := Aside0.mk hr0_0
 have HC0_0 := Aside0.mk hc0_0
 clear hr0_0 hc0_0
 have HR0_1 := Aside0.mk hr0_1
 have HC0_1 := Aside0.mk hc0_1
 clear hr0_1 hc0_1
 have HR1_0 := Aside0.mk hr1_0
 have HC1_0 := Aside0.mk hc1_0
 clear hr1_0 hc1_0
 have HR1_1 := Aside0.mk hr1_1
 have HC1_1 := Aside0.mk hc1_1
 clear hr1_1 hc1_1
 have HB := Aside0.mk (Below.refl w.heap.size w)
 have H : ((spec_l10Copy.f l0_0 l0_1).bind fun bt167 => (spec_Together.l0 k 0 l0_0 l0_1 l1_0 l1_1 bt167.1 bt167.2)) = some (r1, r2) := h
 clear h
 replace H := Option.bind_eq_some_iff.mp H
 obtain ⟨⟨t167, t170⟩, A30, H⟩ := H
 replace H : (spec_Together.l0 k 0 l0_0 l0_1 l1_0 l1_1 t167 t170) = some (r1, r2) := H
 have A3 := Aside0.mk A30
 clear A30
 have H' := Aside0.mk H
 clear H
 go_enter Try.func22, Try.ntmps22
 go_wp2_with (first | ((with_reducible refine gate_dst (N := 2) rfl ?_); (try (refine gate_guard (by rfl) ?_; dsimp only)); refine box_event ?hg (N := 2) ?hd (cs := #[.slice A0_0 l0_0.length c0_0, .slice A0_1 l0_1.length c0_1]) (t := 28) ?hr ?_; (case hd => rfl); (case hg => rfl); (case hr => first | (go_simp; done) | (go_simp; rfl)); intro gb164 hg w4 hbox hb; have BK164 := Aside0.mk (hbox); have GW164 := Hg_ HB hg; have GE164 := GW164; replace HB := Hs_ HB hb; clear hb hbox hg) | ((with_reducible refine gate_dst (N := 3) rfl ?_); (try (refine gate_guard (by rfl) ?_; dsimp only)); refine box_event ?hg (N := 3) ?hd (cs := #[.slice A1_0 l1_0.length c1_0, .slice A1_1 l1_1.length c1_1]) (t := 28) ?hr ?_; (case hd => rfl); (case hg => rfl); (case hr => first | (go_simp; done) | (go_simp; rfl)); intro gb165 hg w5 hbox hb; have BK165 := Aside0.mk (hbox); have GW165 := Hg_ HB hg; have GE165 := GW165; have NB164_165 := Bl_ BK164 hg; have NB165_164 := Bm_ NB164_165; replace BK164 := Bb_ BK164 hb; replace HB := Hs_ HB hb; clear hb hbox hg) | ((with_reducible refine gate_dst (N := 4) rfl ?_); (try (refine gate_guard (by rfl) ?_; dsimp only)); refine box_event ?hg (N := 4) ?hd (cs := #[.slice none 0 0, .slice none 0 0]) (t := 28) ?hr ?_; (case hd => rfl); (case hg => rfl); (case hr => first | (go_simp; done) | (go_simp; rfl)); intro gb166 hg w6 hbox hb; have BK166 := Aside0.mk (hbox); have GW166 := Hg_ HB hg; have GE166 := GW166; have NB164_166 := Bl_ BK164 hg; have NB166_164 := Bm_ NB164_166; have NB165_166 := Bl_ BK165 hg; have NB166_165 := Bm_ NB165_166; replace BK164 := Bb_ BK164 hb; replace BK165 := Bb_ BK165 hb; replace HB := Hs_ HB hb; clear hb hbox hg; have hnb7 := NB164_165.out; have hnc7 := NB165_164.out; have hnb8 := NB164_166.out; have hnc8 := NB166_164.out; obtain ⟨hcz9_0, hcz9_1, hfz9_0, hfz9_1⟩ := Bc2_ BK164) | ((with_reducible refine gate_callee (f := 67) rfl ?_); refine goesL_ (some 8) rfl rfl Try.func67 (by kernel_rfl) rfl #[.agg #[.slice A0_0 l0_0.length c0_0, .slice A0_1 l0_1.length c0_1]] rfl Mp_ ?_; (with_reducible refine (spec_l10Copy.calls _ _ l0_0 _ _ l0_1 t167 t170 _ ?side1 ?side2 ?side3 ?side4 A3.out).mono ?_); (case side1 => exact Sc_ HR0_0 HB); (case side2 => exact HC0_0.out); (case side3 => exact Sc_ HR0_1 HB); (case side4 => exact HC0_1.out); rintro e w10 ⟨v168, v171, rfl, ho0, ho1, hb⟩; refine ⟨_, rfl, ?_⟩; have HO169 := Aside0.mk (Kd.R_lower ho0 (below_size (Hf_ HB))); have HO172 := Aside0.mk (Kd.R_lower ho1 (below_size (Hf_ HB))); replace BK164 := Bb_ BK164 hb; replace BK165 := Bb_ BK165 hb; replace BK166 := Bb_ BK166 hb; replace HB := Hs_ HB hb; (try clear hb); (try clear hb2); (try clear hk); (try clear hi); (try clear ho0); (try clear ho1)) | ((with_reducible refine gate_dst (N := 5) rfl ?_); (try (refine gate_guard (by rfl) ?_; dsimp only)); refine box_event ?hg (N := 5) ?hd (cs := #[.slice none 0 0, .slice none 0 0]) (t := 28) ?hr ?_; (case hd => rfl); (case hg => rfl); (case hr => first | (go_simp; done) | (go_simp; rfl)); intro gb173 hg w11 hbox hb; have BK173 := Aside0.mk (hbox); have GW173 := Hg_ HB hg; have GE173 := GW173; have NB164_173 := Bl_ BK164 hg; have NB173_164 := Bm_ NB164_173; have NB165_173 := Bl_ BK165 hg; have NB173_165 := Bm_ NB165_173; have NB166_173 := Bl_ BK166 hg; have NB173_166 := Bm_ NB166_173; replace HO169 := Rb_ HO169 hb; replace HO172 := Rb_ HO172 hb; replace BK164 := Bb_ BK164 hb; replace BK165 := Bb_ BK165 hb; replace BK166 := Bb_ BK166 hb; replace HB := Hs_ HB hb; clear hb hbox hg; obtain ⟨Ao12, co12, eo12⟩ := Kd.R_slice HO169.out; subst eo12; have hnb13 := NB173_164.out; have hnc13 := NB164_173.out; have hnb14 := NB173_165.out; have hnc14 := NB165_173.out; have hnb15 := NB173_166.out; have hnc15 := NB166_173.out; obtain ⟨hcz16_0, hcz16_1, hfz16_0, hfz16_1⟩ := Bc2_ BK173; obtain ⟨Ao17, co17, eo17⟩ := Kd.R_slice HO172.out; subst eo17))
 go_loopg [6] k (fun kq v6 w' => ∃ (x6_1 : Int) (x174000_1 : List ByteArray) (x174001_1 : List Int) (u174000 : Value) (u174001 : Value), v6 = .int .i64 x6_1 ∧ Aside0 (spec_Together.l0 kq x6_1 l0_0 l0_1 l1_0 l1_1 x174000_1 x174001_1 = some (r1, r2)) ∧ Aside0 (kq ≤ k) ∧ Aside0 (Kd.R Kd.string 9 w' w.heap.size (fun _ => True) u174000 x174000_1) ∧ Aside0 (Kd.R (Kd.int .i64) 3 w' w.heap.size (fun _ => True) u174001 x174001_1) ∧ Aside0 (w'.heap[gb164]? = some (.cells #[(.slice A0_0 l0_0.length c0_0), (.slice A0_1 l0_1.length c0_1)] 28 (0, 0))) ∧ Aside0 (w'.heap[gb165]? = some (.cells #[(.slice A1_0 l1_0.length c1_0), (.slice A1_1 l1_1.length c1_1)] 28 (0, 0))) ∧ Aside0 (w'.heap[gb166]? = some (.cells #[(.slice none 0 0), (.slice none 0 0)] 28 (0, 0))) ∧ Aside0 (w'.heap[gb173]? = some (.cells #[u174000, u174001] 28 (0, 0))) ∧ Aside0 (Below w.heap.size w w'))
 case atStart => exact ⟨(0), (t167), (t170), (.slice Ao12 t167.length co12), (.slice Ao17 t170.length co17), (by first | rfl | (simp; done) | (simp [*]; done)), H', ⟨Nat.le_refl _⟩, ⟨by (with_reducible repeat (first | apply Kd.R_alloc | apply Kd.R_drewN | apply Kd.R_drew)); exact Kd.R_mono (Kd.R_far (p := ⟨gb173, 1, none⟩) (Kd.R_far (p := ⟨gb173, 0, none⟩) (Kd.R_types HO169.out BK173.out (by decide)) (fun _ hk => hk.2) (.slice Ao12 t167.length co12)) (fun _ hk => hk.2) (.slice Ao17 t170.length co17)) (fun _ hk => trivial)⟩, ⟨by (with_reducible repeat (first | apply Kd.R_alloc | apply Kd.R_drewN | apply Kd.R_drew)); exact Kd.R_mono (Kd.R_far (p := ⟨gb173, 1, none⟩) (Kd.R_far (p := ⟨gb173, 0, none⟩) (Kd.R_types HO172.out BK173.out (by decide)) (fun _ hk => hk.2) (.slice Ao12 t167.length co12)) (fun _ hk => hk.2) (.slice Ao17 t170.length co17)) (fun _ hk => trivial)⟩, ⟨by (with_reducible repeat (first | refine blk_drewN ?_ _ | refine blk_drew ?_ | refine blk_alloc ?_ _)); refine blk_far ?_ NB164_173.out _; (with_reducible repeat (first | refine blk_drewN ?_ _ | refine blk_drew ?_ | refine blk_alloc ?_ _)); refine blk_far ?_ NB164_173.out _; (with_reducible repeat (first | refine blk_drewN ?_ _ | refine blk_drew ?_ | refine blk_alloc ?_ _)); exact BK164.out⟩, ⟨by (with_reducible repeat (first | refine blk_drewN ?_ _ | refine blk_drew ?_ | refine blk_alloc ?_ _)); refine blk_far ?_ NB165_173.out _; (with_reducible repeat (first | refine blk_drewN ?_ _ | refine blk_drew ?_ | refine blk_alloc ?_ _)); refine blk_far ?_ NB165_173.out _; (with_reducible repeat (first | refine blk_drewN ?_ _ | refine blk_drew ?_ | refine blk_alloc ?_ _)); exact BK165.out⟩, ⟨by (with_reducible repeat (first | refine blk_drewN ?_ _ | refine blk_drew ?_ | refine blk_alloc ?_ _)); refine blk_far ?_ NB166_173.out _; (with_reducible repeat (first | refine blk_drewN ?_ _ | refine blk_drew ?_ | refine blk_alloc ?_ _)); refine blk_far ?_ NB166_173.out _; (with_reducible repeat (first | refine blk_drewN ?_ _ | refine blk_drew ?_ | refine blk_alloc ?_ _)); exact BK166.out⟩, ⟨by (with_reducible repeat (first | refine blk_drewN ?_ _ | refine blk_drew ?_ | refine blk_alloc ?_ _)); refine blk_put (cs := #[.slice Ao12 t167.length co12, .slice none 0 0]) ?_ 1 _ rfl; (with_reducible repeat (first | refine blk_drewN ?_ _ | refine blk_drew ?_ | refine blk_alloc ?_ _)); refine blk_put (cs := #[.slice none 0 0, .slice none 0 0]) ?_ 0 _ rfl; (with_reducible repeat (first | refine blk_drewN ?_ _ | refine blk_drew ?_ | refine blk_alloc ?_ _)); exact BK173.out⟩, ⟨Hf_ HB⟩⟩
 case round =>
  clear H'
  try clear c1
  try clear c2
  try clear p2
  try clear c6
  try clear c7
  try clear c8
  try clear c13
  try clear c14
  try clear c15
  try clear hcz16_0
  try clear hcz16_1
  try clear hcz9_0
  try clear hcz9_1
  try clear hfz16_0
  try clear hfz16_1
  try clear hfz9_0
  try clear hfz9_1
  obtain ⟨x6_1, x174000_1, x174001_1, u174000, u174001, rfl, HA, HK1, HO_174000, HO_174001, BK164, BK165, BK166, BK173, HB⟩ := hrel
  cases gk with
  | zero => exact absurd HA.out (by simp [spec_Together.l0])
  | succ k1 =>
   have H := HA.out
   clear HA
   simp only [spec_Together.l0] at H
   have HC18 := Aside0.mk H
   clear H
   go_upto_region 3 with (fail)
   go_cut [20] (fun v20 wc => ∃ (kq : Nat) (x20_17 : Bool), v20 = .bool x20_17 ∧ Aside0 (spec_Together.j1 kq x6_1 x20_17 l0_0 l0_1 l1_0 l1_1 x174000_1 x174001_1 = some (r1, r2)) ∧ Aside0 (kq ≤ k1) ∧ Aside0 (Kd.R Kd.string 9 wc w.heap.size (fun _ => True) u174000 x174000_1) ∧ Aside0 (Kd.R (Kd.int .i64) 3 wc w.heap.size (fun _ => True) u174001 x174001_1) ∧ Aside0 (wc.heap[gb164]? = some (.cells #[(.slice A0_0 l0_0.length c0_0), (.slice A0_1 l0_1.length c0_1)] 28 (0, 0))) ∧ Aside0 (wc.heap[gb165]? = some (.cells #[(.slice A1_0 l1_0.length c1_0), (.slice A1_1 l1_1.length c1_1)] 28 (0, 0))) ∧ Aside0 (wc.heap[gb166]? = some (.cells #[(.slice none 0 0), (.slice none 0 0)] 28 (0, 0))) ∧ Aside0 (wc.heap[gb173]? = some (.cells #[u174000, u174001] 28 (0, 0))) ∧ Aside0 (Below w.heap.size w wc))
   case first =>
    have H := HC18.out
    clear HC18
    by_cases c19 : x6_1 < (l1_0.length : Int)
    ·rw [if_pos c19] at H
     have c19b0 : decide (x6_1 < (l1_0.length : Int)) = true := decide_eq_true c19
     clear c19
     (first | rw [c19b0] | (simp only [i64_w, i32_w]; rw [c19b0]) | skip)
     have H' := Aside0.mk H
     clear H
     have hnb20 := NB165_164.out
     have hnc20 := NB164_165.out
     have hnb21 := NB165_166.out
     have hnc21 := NB166_165.out
     have hnb22 := NB165_173.out
     have hnc22 := NB173_165.out
     obtain ⟨hcz23_0, hcz23_1, hfz23_0, hfz23_1⟩ := Bc2_ BK165
     go_wp2
     go_meet
     case rel => exact ⟨_, (decide (x6_1 < (l1_1.length : Int))), (by first | rfl | (simp; done) | (simp [*]; done)), H', ⟨by have := HK1.out; first | omega | exact Nat.le_refl _⟩, ⟨Rq_ HO_174000⟩, ⟨Rq_ HO_174001⟩, ⟨Bq_ BK164⟩, ⟨Bq_ BK165⟩, ⟨Bq_ BK166⟩, ⟨Bq_ BK173⟩, ⟨Hf_ HB⟩⟩
    ·rw [if_neg c19] at H
     have c19b0 : decide (x6_1 < (l1_0.length : Int)) = false := decide_eq_false c19
     clear c19
     (first | rw [c19b0] | (simp only [i64_w, i32_w]; rw [c19b0]) | skip)
     have H' := Aside0.mk H
     clear H
     have hnb24 := NB165_164.out
     have hnc24 := NB164_165.out
     have hnb25 := NB165_166.out
     have hnc25 := NB166_165.out
     have hnb26 := NB165_173.out
     have hnc26 := NB173_165.out
     obtain ⟨hcz27_0, hcz27_1, hfz27_0, hfz27_1⟩ := Bc2_ BK165
     go_wp2
     go_meet
     case rel => exact ⟨_, (false), (by first | rfl | (simp; done) | (simp [*]; done)), H', ⟨by have := HK1.out; first | omega | exact Nat.le_refl _⟩, ⟨Rq_ HO_174000⟩, ⟨Rq_ HO_174001⟩, ⟨Bq_ BK164⟩, ⟨Bq_ BK165⟩, ⟨Bq_ BK166⟩, ⟨Bq_ BK173⟩, ⟨Hf_ HB⟩⟩
   case rest =>
    clear HC18
    try clear c1
    try clear c2
    try clear p2
    try clear c6
    try clear c7
    try clear c8
    try clear c13
    try clear c14
    try clear c15
    try clear c19
    try clear c19b0
    try clear c20
    try clear c21
    try clear c22
    try clear c24
    try clear c25
    try clear c26
    try clear hcz16_0
    try clear hcz16_1
    try clear hcz23_0
    try clear hcz23_1
    try clear hcz27_0
    try clear hcz27_1
    try clear hcz9_0
    try clear hcz9_1
    try clear hfz16_0
    try clear hfz16_1
    try clear hfz23_0
    try clear hfz23_1
    try clear hfz27_0
    try clear hfz27_1
    try clear hfz9_0
    try clear hfz9_1
    try clear p2
    obtain ⟨kq, x20_17, rfl, HA, HJ17, HO_174000, HO_174001, BK164, BK165, BK166, BK173, HB⟩ := hcut
    cases kq with
    | zero => exact absurd HA.out (by simp [spec_Together.j1])
    | succ kj17 =>
     have H := HA.out
     clear HA
     simp only [spec_Together.j1] at H
     by_cases c28 : x20_17 = true
     ·subst c28
      have H1 : (if 0 ≤ x6_1 then (if x6_1 < (l1_0.length : Int) then ((spec_l08In.f kj17 l0_0 (rdOf ByteArray.empty l1_0 x6_1)).bind fun t175 => (if t175 = true then (spec_Together.l0 kj17 (wrap64 (x6_1 + 1)) l0_0 l0_1 l1_0 l1_1 x174000_1 x174001_1) else (if x174000_1.length < 8796093022208 then (if x6_1 < (l1_1.length : Int) then (if x174001_1.length < 17592186044416 then (spec_Together.l0 kj17 (wrap64 (x6_1 + 1)) l0_0 l0_1 l1_0 l1_1 (x174000_1 ++ [rdOf ByteArray.empty l1_0 x6_1]) (x174001_1 ++ [rd l1_1 x6_1])) else (none)) else (none)) else (none)))) else (none)) else (none)) = some (r1, r2) := by rw [if_pos rfl] at H; exact H
      clear H
      have H := H1
      clear H1
      by_cases c29 : 0 ≤ x6_1
      ·rw [if_pos c29] at H
       have c29b0 : decide (0 ≤ x6_1) = true := decide_eq_true c29
       clear c29
       by_cases c30 : x6_1 < (l1_0.length : Int)
       ·rw [if_pos c30] at H
        have c30b0 : decide (x6_1 < (l1_0.length : Int)) = true := decide_eq_true c30
        clear c30
        replace H := Option.bind_eq_some_iff.mp H
        obtain ⟨t175, A310, H⟩ := H
        replace H : (if t175 = true then (spec_Together.l0 kj17 (wrap64 (x6_1 + 1)) l0_0 l0_1 l1_0 l1_1 x174000_1 x174001_1) else (if x174000_1.length < 8796093022208 then (if x6_1 < (l1_1.length : Int) then (if x174001_1.length < 17592186044416 then (spec_Together.l0 kj17 (wrap64 (x6_1 + 1)) l0_0 l0_1 l1_0 l1_1 (x174000_1 ++ [rdOf ByteArray.empty l1_0 x6_1]) (x174001_1 ++ [rd l1_1 x6_1])) else (none)) else (none)) else (none))) = some (r1, r2) := H
        have A31 := Aside0.mk A310
        clear A310
        by_cases c32 : t175 = true
        ·subst c32
         have H1 : (spec_Together.l0 kj17 (wrap64 (x6_1 + 1)) l0_0 l0_1 l1_0 l1_1 x174000_1 x174001_1) = some (r1, r2) := by rw [if_pos rfl] at H; exact H
         clear H
         have H := H1
         clear H1
         have H' := Aside0.mk H
         clear H
         try go_wp2
         replace HO_174000 := Aside0.mk (Kd.R_drew HO_174000.out); replace HO_174001 := Aside0.mk (Kd.R_drew HO_174001.out); replace BK164 := Aside0.mk (blk_drew BK164.out); replace BK165 := Aside0.mk (blk_drew BK165.out); replace BK166 := Aside0.mk (blk_drew BK166.out); replace BK173 := Aside0.mk (blk_drew BK173.out); replace HB := Aside0.mk (below_drew1 HB.out)
         have p174 : 0 ≤ (x6_1 : Int) := of_decide_eq_true As_
         have q174 : x6_1 < (l1_0.length : Int) := of_decide_eq_true As_
         obtain ⟨ad174, e174, hx174_0⟩ := Kd.at_string HR1_0.out x6_1 p174 q174
         have hw174_0 := hx174_0
         cases e174
         replace hx174_0 := (HB.out.cell (World.block_lt_of_cell? w _ hx174_0)).trans hx174_0
         replace p174 := eq_true p174
         replace q174 := eq_true q174
         refine start_ (n := 9) (S := fun w' => w'.cell? ⟨gb164, 0, none⟩ = some (.slice A0_0 l0_0.length c0_0) ∧ w'.cell? ⟨gb164, 1, none⟩ = some (.slice A0_1 l0_1.length c0_1) ∧ w'.cell? ⟨gb165, 0, none⟩ = some (.slice (some ad174) l1_0.length c1_0) ∧ w'.cell? ⟨gb165, 1, none⟩ = some (.slice A1_1 l1_1.length c1_1) ∧ w'.cell? (ad174.add (x6_1).toNat) = some (.string (rdOf ByteArray.empty l1_0 x6_1))) (ds := []) #[false, false, false, false, false, false, false, false, false] (by kernel_rfl) rfl rfl ⟨(blk_cell BK164.out 0).trans rfl, (blk_cell BK164.out 1).trans rfl, (blk_cell BK165.out 0).trans rfl, (blk_cell BK165.out 1).trans rfl, ((HB.out.cell (World.block_lt_of_cell? w _ hw174_0)).trans hw174_0)⟩ (fun hHeld => ?_); refine with_tabW spec_Together.tab5 spec_Together.bits5 (fun HT_ HW_ => ?_)
         generalize wc.drew = w33 at HO_174000 HO_174001 BK164 BK165 BK166 BK173 HB hx174_0 hHeld ⊢
         refine pure_ (i := 0) (N := some 23) (v := ?_) (a' := ?_) #[true, false, false, false, false, false, false, false, false] rfl rfl (any_of HT_.out (by kernel_rfl)) (fun _ _ _ h => h) (Or.inl ⟨by rfl, ?_⟩) ?_ ?_
         rotate_left
         ·intro w'
          go_simp
          with_reducible rfl
         rotate_left
         ·simp only [Act.put, List.setIfInBounds_toArray, List.set_cons_zero, List.set_cons_succ, i64_w, i32_w]
          rfl
         refine pure_ (i := 2) (N := some 25) (v := ?_) (a' := ?_) #[true, false, true, false, false, false, false, false, false] rfl rfl (any_of HT_.out (by kernel_rfl)) (fun _ _ _ h => h) (Or.inl ⟨by rfl, ?_⟩) ?_ ?_
         rotate_left
         ·intro w'
          go_simp
          with_reducible rfl
         rotate_left
         ·simp only [Act.put, List.setIfInBounds_toArray, List.set_cons_zero, List.set_cons_succ, i64_w, i32_w]
          rfl
         refine pure_ (i := 4) (N := some 27) (v := ?_) (a' := ?_) #[true, false, true, false, true, false, false, false, false] rfl rfl (any_of HT_.out (by kernel_rfl)) (fun _ _ _ h => h) (Or.inl ⟨by rfl, ?_⟩) ?_ ?_
         rotate_left
         ·intro w'
          go_simp
          with_reducible rfl
         rotate_left
         ·simp only [Act.put, List.setIfInBounds_toArray, List.set_cons_zero, List.set_cons_succ, i64_w, i32_w]
          rfl
         refine take_ (i := 1) (N := some 24) (v := ?_) (a' := ?_) #[true, true, true, false, true, false, false, false, false] rfl rfl (take_ofW HT_.out HW_.out (by kernel_rfl)) (fun _ _ _ h => h) (Or.inl ⟨by rfl, ?_⟩) hHeld ?_ ?_
         rotate_left
         ·rintro w' ⟨s0, s1, s2, s3, s4⟩
          go_simp
          with_reducible rfl
         rotate_left
         ·simp only [Act.put, List.setIfInBounds_toArray, List.set_cons_zero, List.set_cons_succ, i64_w, i32_w]
          rfl
         refine take_ (i := 3) (N := some 26) (v := ?_) (a' := ?_) #[true, true, true, true, true, false, false, false, false] rfl rfl (take_ofW HT_.out HW_.out (by kernel_rfl)) (fun _ _ _ h => h) (Or.inl ⟨by rfl, ?_⟩) hHeld ?_ ?_
         rotate_left
         ·rintro w' ⟨s0, s1, s2, s3, s4⟩
          go_simp
          with_reducible rfl
         rotate_left
         ·simp only [Act.put, List.setIfInBounds_toArray, List.set_cons_zero, List.set_cons_succ, i64_w, i32_w]
          rfl
         refine pure_ (i := 5) (N := some 28) (v := ?_) (a' := ?_) #[true, true, true, true, true, true, false, false, false] rfl rfl (any_of HT_.out (by kernel_rfl)) (fun _ _ _ h => h) (Or.inl ⟨by rfl, ?_⟩) ?_ ?_
         rotate_left
         ·intro w'
          go_simp
          with_reducible rfl
         rotate_left
         ·simp only [Act.put, List.setIfInBounds_toArray, List.set_cons_zero, List.set_cons_succ, i64_w, i32_w]
          rfl
         refine take_ (i := 6) (N := some 29) (v := ?_) (a' := ?_) #[true, true, true, true, true, true, true, false, false] rfl rfl (take_ofW HT_.out HW_.out (by kernel_rfl)) (fun _ _ _ h => h) (Or.inl ⟨by rfl, ?_⟩) hHeld ?_ ?_
         rotate_left
         ·rintro w' ⟨s0, s1, s2, s3, s4⟩
          go_simp
          with_reducible rfl
         rotate_left
         ·simp only [Act.put, List.setIfInBounds_toArray, List.set_cons_zero, List.set_cons_succ, i64_w, i32_w]
          rfl
         refine one_ (i := 7) (N := some 30) #[true, true, true, true, true, true, true, true, false] rfl rfl (one_of HT_.out (by kernel_rfl)) (by decide) (fun K hK => ?_)
         refine goes_ Try.func59 (by kernel_rfl) rfl #[.slice A0_0 l0_0.length c0_0, .string (rdOf ByteArray.empty l1_0 x6_1)] (by rfl) rfl rfl Mp_ ?_
         with_reducible refine (spec_l08In.calls kj17 _ _ l0_0 (rdOf ByteArray.empty l1_0 x6_1) true _ ?side1 ?side2 A31.out).mono ?_
         (case side1 => exact Sc_ HR0_0 HB)
         (case side2 => exact HC0_0.out)
         rintro e w' ⟨rfl, ⟨nd, rfl⟩⟩
         refine ⟨_, rfl, ?_⟩
         refine hK.out _ _ ⟨(blk_cell BK164.out 0).trans rfl, (blk_cell BK164.out 1).trans rfl, (blk_cell BK165.out 0).trans rfl, (blk_cell BK165.out 1).trans rfl, ((HB.out.cell (World.block_lt_of_cell? w _ hw174_0)).trans hw174_0)⟩ (fun hHeld => ?_)
         clear hK K
         refine norm_ (a' := ?_) ?_ ?_
         rotate_left
         ·show Act.put _ (some 30) _ = _
          simp only [Act.put, List.setIfInBounds_toArray, List.set_cons_zero, List.set_cons_succ, i64_w, i32_w]
          rfl
         refine pure_ (i := 8) (N := some 31) (v := ?_) (a' := ?_) #[true, true, true, true, true, true, true, true, true] rfl rfl (any_of HT_.out (by kernel_rfl)) (fun _ _ _ h => h) (Or.inl ⟨by rfl, ?_⟩) ?_ ?_
         rotate_left
         ·intro w'
          go_simp
          with_reducible rfl
         rotate_left
         ·simp only [Act.put, List.setIfInBounds_toArray, List.set_cons_zero, List.set_cons_succ, i64_w, i32_w]
          rfl
         refine done_ (done_of HT_.out (by kernel_rfl)) ?_
         try go_wp2
         go_roundg kj17
         case measure => have := HK1.out; have := HJ17.out; omega
         case rel => exact ⟨(wrap64 (x6_1 + 1)), (x174000_1), (x174001_1), (u174000), (u174001), (by first | rfl | (simp; done) | (simp [*]; done)), H', ⟨by have := HK1.out; have := HJ17.out; omega⟩, ⟨Rq_ HO_174000⟩, ⟨Rq_ HO_174001⟩, ⟨Bq_ BK164⟩, ⟨Bq_ BK165⟩, ⟨Bq_ BK166⟩, ⟨Bq_ BK173⟩, ⟨Hf_ HB⟩⟩
        ·replace c32 := Bool.eq_false_iff.mpr c32
         subst c32
         have H1 : (if x174000_1.length < 8796093022208 then (if x6_1 < (l1_1.length : Int) then (if x174001_1.length < 17592186044416 then (spec_Together.l0 kj17 (wrap64 (x6_1 + 1)) l0_0 l0_1 l1_0 l1_1 (x174000_1 ++ [rdOf ByteArray.empty l1_0 x6_1]) (x174001_1 ++ [rd l1_1 x6_1])) else (none)) else (none)) else (none)) = some (r1, r2) := by rw [if_neg (show ¬ (false = true) by decide)] at H; exact H
         clear H
         have H := H1
         clear H1
         by_cases c34 : x174000_1.length < 8796093022208
         ·rw [if_pos c34] at H
          have LMc34 := Aside0.mk c34
          clear c34
          obtain ⟨y177, hy177⟩ : ∃ y_ : List ByteArray, y_ = (x174000_1 ++ [rdOf ByteArray.empty l1_0 x6_1]) := ⟨_, rfl⟩
          replace H : (if x6_1 < (l1_1.length : Int) then (if x174001_1.length < 17592186044416 then (spec_Together.l0 kj17 (wrap64 (x6_1 + 1)) l0_0 l0_1 l1_0 l1_1 y177 (x174001_1 ++ [rd l1_1 x6_1])) else (none)) else (none)) = some (r1, r2) := by first | (rw [hy177]; with_reducible exact H) | (have H2_ := (Option.bind_some _ _).symm.trans H; rw [hy177]; with_reducible exact H2_) | (have H2_ := (Option.bind_some _ _).symm.trans H; with_reducible exact H2_) | with_reducible exact H | (rw [hy177]; exact H) | exact H
          have Ny177 := Aside0.mk hy177
          clear hy177
          by_cases c35 : x6_1 < (l1_1.length : Int)
          ·rw [if_pos c35] at H
           have c35b0 : decide (x6_1 < (l1_1.length : Int)) = true := decide_eq_true c35
           clear c35
           by_cases c36 : x174001_1.length < 17592186044416
           ·rw [if_pos c36] at H
            have LMc36 := Aside0.mk c36
            clear c36
            obtain ⟨y181, hy181⟩ : ∃ y_ : List Int, y_ = (x174001_1 ++ [rd l1_1 x6_1]) := ⟨_, rfl⟩
            replace H : (spec_Together.l0 kj17 (wrap64 (x6_1 + 1)) l0_0 l0_1 l1_0 l1_1 y177 y181) = some (r1, r2) := by first | (rw [hy181]; with_reducible exact H) | (have H2_ := (Option.bind_some _ _).symm.trans H; rw [hy181]; with_reducible exact H2_) | (have H2_ := (Option.bind_some _ _).symm.trans H; with_reducible exact H2_) | with_reducible exact H | (rw [hy181]; exact H) | exact H
            have Ny181 := Aside0.mk hy181
            clear hy181
            have H' := Aside0.mk H
            clear H
            try go_wp2
            replace HO_174000 := Aside0.mk (Kd.R_drew HO_174000.out); replace HO_174001 := Aside0.mk (Kd.R_drew HO_174001.out); replace BK164 := Aside0.mk (blk_drew BK164.out); replace BK165 := Aside0.mk (blk_drew BK165.out); replace BK166 := Aside0.mk (blk_drew BK166.out); replace BK173 := Aside0.mk (blk_drew BK173.out); replace HB := Aside0.mk (below_drew1 HB.out)
            have p174 : 0 ≤ (x6_1 : Int) := of_decide_eq_true As_
            have q174 : x6_1 < (l1_0.length : Int) := of_decide_eq_true As_
            obtain ⟨ad174, e174, hx174_0⟩ := Kd.at_string HR1_0.out x6_1 p174 q174
            have hw174_0 := hx174_0
            cases e174
            replace hx174_0 := (HB.out.cell (World.block_lt_of_cell? w _ hx174_0)).trans hx174_0
            replace p174 := eq_true p174
            replace q174 := eq_true q174
            refine start_ (n := 9) (S := fun w' => w'.cell? ⟨gb164, 0, none⟩ = some (.slice A0_0 l0_0.length c0_0) ∧ w'.cell? ⟨gb164, 1, none⟩ = some (.slice A0_1 l0_1.length c0_1) ∧ w'.cell? ⟨gb165, 0, none⟩ = some (.slice (some ad174) l1_0.length c1_0) ∧ w'.cell? ⟨gb165, 1, none⟩ = some (.slice A1_1 l1_1.length c1_1) ∧ w'.cell? (ad174.add (x6_1).toNat) = some (.string (rdOf ByteArray.empty l1_0 x6_1))) (ds := []) #[false, false, false, false, false, false, false, false, false] (by kernel_rfl) rfl rfl ⟨(blk_cell BK164.out 0).trans rfl, (blk_cell BK164.out 1).trans rfl, (blk_cell BK165.out 0).trans rfl, (blk_cell BK165.out 1).trans rfl, ((HB.out.cell (World.block_lt_of_cell? w _ hw174_0)).trans hw174_0)⟩ (fun hHeld => ?_); refine with_tabW spec_Together.tab5 spec_Together.bits5 (fun HT_ HW_ => ?_)
            generalize wc.drew = w37 at HO_174000 HO_174001 BK164 BK165 BK166 BK173 HB hx174_0 hHeld ⊢
            refine pure_ (i := 0) (N := some 23) (v := ?_) (a' := ?_) #[true, false, false, false, false, false, false, false, false] rfl rfl (any_of HT_.out (by kernel_rfl)) (fun _ _ _ h => h) (Or.inl ⟨by rfl, ?_⟩) ?_ ?_
            rotate_left
            ·intro w'
             go_simp
             with_reducible rfl
            rotate_left
            ·simp only [Act.put, List.setIfInBounds_toArray, List.set_cons_zero, List.set_cons_succ, i64_w, i32_w]
             rfl
            refine pure_ (i := 2) (N := some 25) (v := ?_) (a' := ?_) #[true, false, true, false, false, false, false, false, false] rfl rfl (any_of HT_.out (by kernel_rfl)) (fun _ _ _ h => h) (Or.inl ⟨by rfl, ?_⟩) ?_ ?_
            rotate_left
            ·intro w'
             go_simp
             with_reducible rfl
            rotate_left
            ·simp only [Act.put, List.setIfInBounds_toArray, List.set_cons_zero, List.set_cons_succ, i64_w, i32_w]
             rfl
            refine pure_ (i := 4) (N := some 27) (v := ?_) (a' := ?_) #[true, false, true, false, true, false, false, false, false] rfl rfl (any_of HT_.out (by kernel_rfl)) (fun _ _ _ h => h) (Or.inl ⟨by rfl, ?_⟩) ?_ ?_
            rotate_left
            ·intro w'
             go_simp
             with_reducible rfl
            rotate_left
            ·simp only [Act.put, List.setIfInBounds_toArray, List.set_cons_zero, List.set_cons_succ, i64_w, i32_w]
             rfl
            refine take_ (i := 1) (N := some 24) (v := ?_) (a' := ?_) #[true, true, true, false, true, false, false, false, false] rfl rfl (take_ofW HT_.out HW_.out (by kernel_rfl)) (fun _ _ _ h => h) (Or.inl ⟨by rfl, ?_⟩) hHeld ?_ ?_
            rotate_left
            ·rintro w' ⟨s0, s1, s2, s3, s4⟩
             go_simp
             with_reducible rfl
            rotate_left
            ·simp only [Act.put, List.setIfInBounds_toArray, List.set_cons_zero, List.set_cons_succ, i64_w, i32_w]
             rfl
            refine take_ (i := 3) (N := some 26) (v := ?_) (a' := ?_) #[true, true, true, true, true, false, false, false, false] rfl rfl (take_ofW HT_.out HW_.out (by kernel_rfl)) (fun _ _ _ h => h) (Or.inl ⟨by rfl, ?_⟩) hHeld ?_ ?_
            rotate_left
            ·rintro w' ⟨s0, s1, s2, s3, s4⟩
             go_simp
             with_reducible rfl
            rotate_left
            ·simp only [Act.put, List.setIfInBounds_toArray, List.set_cons_zero, List.set_cons_succ, i64_w, i32_w]
             rfl
            refine pure_ (i := 5) (N := some 28) (v := ?_) (a' := ?_) #[true, true, true, true, true, true, false, false, false] rfl rfl (any_of HT_.out (by kernel_rfl)) (fun _ _ _ h => h) (Or.inl ⟨by rfl, ?_⟩) ?_ ?_
            rotate_left
            ·intro w'
             go_simp
             with_reducible rfl
            rotate_left
            ·simp only [Act.put, List.setIfInBounds_toArray, List.set_cons_zero, List.set_cons_succ, i64_w, i32_w]
             rfl
            refine take_ (i := 6) (N := some 29) (v := ?_) (a' := ?_) #[true, true, true, true, true, true, true, false, false] rfl rfl (take_ofW HT_.out HW_.out (by kernel_rfl)) (fun _ _ _ h => h) (Or.inl ⟨by rfl, ?_⟩) hHeld ?_ ?_
            rotate_left
            ·rintro w' ⟨s0, s1, s2, s3, s4⟩
             go_simp
             with_reducible rfl
            rotate_left
            ·simp only [Act.put, List.setIfInBounds_toArray, List.set_cons_zero, List.set_cons_succ, i64_w, i32_w]
             rfl
            refine one_ (i := 7) (N := some 30) #[true, true, true, true, true, true, true, true, false] rfl rfl (one_of HT_.out (by kernel_rfl)) (by decide) (fun K hK => ?_)
            refine goes_ Try.func59 (by kernel_rfl) rfl #[.slice A0_0 l0_0.length c0_0, .string (rdOf ByteArray.empty l1_0 x6_1)] (by rfl) rfl rfl Mp_ ?_
            with_reducible refine (spec_l08In.calls kj17 _ _ l0_0 (rdOf ByteArray.empty l1_0 x6_1) false _ ?side1 ?side2 A31.out).mono ?_
            (case side1 => exact Sc_ HR0_0 HB)
            (case side2 => exact HC0_0.out)
            rintro e w' ⟨rfl, ⟨nd, rfl⟩⟩
            refine ⟨_, rfl, ?_⟩
            refine hK.out _ _ ⟨(blk_cell BK164.out 0).trans rfl, (blk_cell BK164.out 1).trans rfl, (blk_cell BK165.out 0).trans rfl, (blk_cell BK165.out 1).trans rfl, ((HB.out.cell (World.block_lt_of_cell? w _ hw174_0)).trans hw174_0)⟩ (fun hHeld => ?_)
            clear hK K
            refine norm_ (a' := ?_) ?_ ?_
            rotate_left
            ·show Act.put _ (some 30) _ = _
             simp only [Act.put, List.setIfInBounds_toArray, List.set_cons_zero, List.set_cons_succ, i64_w, i32_w]
             rfl
            refine pure_ (i := 8) (N := some 31) (v := ?_) (a' := ?_) #[true, true, true, true, true, true, true, true, true] rfl rfl (any_of HT_.out (by kernel_rfl)) (fun _ _ _ h => h) (Or.inl ⟨by rfl, ?_⟩) ?_ ?_
            rotate_left
            ·intro w'
             go_simp
             with_reducible rfl
            rotate_left
            ·simp only [Act.put, List.setIfInBounds_toArray, List.set_cons_zero, List.set_cons_succ, i64_w, i32_w]
             rfl
            refine done_ (done_of HT_.out (by kernel_rfl)) ?_
            try go_wp2
            (try (rw [drewN_self w37]; generalize hq_ : World.drewN w37 _ = w37; have n0_ : Aside0 (Kd.R Kd.string 9 w37 w.heap.size (fun _ => True) u174000 x174000_1) := ⟨by rw [← hq_]; exact (Rq_ HO_174000)⟩; have n1_ : Aside0 (Kd.R (Kd.int .i64) 3 w37 w.heap.size (fun _ => True) u174001 x174001_1) := ⟨by rw [← hq_]; exact (Rq_ HO_174001)⟩; have n2_ : Aside0 (w37.heap[gb164]? = some (.cells #[.slice A0_0 l0_0.length c0_0, .slice A0_1 l0_1.length c0_1] 28 (0, 0))) := ⟨by rw [← hq_]; exact (Bq_ BK164)⟩; have n3_ : Aside0 (w37.heap[gb165]? = some (.cells #[.slice (some ad174) l1_0.length c1_0, .slice A1_1 l1_1.length c1_1] 28 (0, 0))) := ⟨by rw [← hq_]; exact (Bq_ BK165)⟩; have n4_ : Aside0 (w37.heap[gb166]? = some (.cells #[.slice none 0 0, .slice none 0 0] 28 (0, 0))) := ⟨by rw [← hq_]; exact (Bq_ BK166)⟩; have n5_ : Aside0 (w37.heap[gb173]? = some (.cells #[u174000, u174001] 28 (0, 0))) := ⟨by rw [← hq_]; exact (Bq_ BK173)⟩; have n6_ : Aside0 (Below w.heap.size w w37) := ⟨by rw [← hq_]; exact (Hf_ HB)⟩; clear HO_174000 HO_174001 BK164 BK165 BK166 BK173 HB hq_; have HO_174000 := n0_; have HO_174001 := n1_; have BK164 := n2_; have BK165 := n3_; have BK166 := n4_; have BK173 := n5_; have HB := n6_; clear n0_ n1_ n2_ n3_ n4_ n5_ n6_))
            replace HO_174000 := Aside0.mk (Kd.R_drew HO_174000.out); replace HO_174001 := Aside0.mk (Kd.R_drew HO_174001.out); replace BK164 := Aside0.mk (blk_drew BK164.out); replace BK165 := Aside0.mk (blk_drew BK165.out); replace BK166 := Aside0.mk (blk_drew BK166.out); replace BK173 := Aside0.mk (blk_drew BK173.out); replace HB := Aside0.mk (below_drew1 HB.out)
            have p176 : 0 ≤ (x6_1 : Int) := of_decide_eq_true As_
            have q176 : x6_1 < (l1_0.length : Int) := of_decide_eq_true As_
            obtain ⟨ad176, e176, hx176_0⟩ := Kd.at_string HR1_0.out x6_1 p176 q176
            have hw176_0 := hx176_0
            obtain rfl : ad174 = ad176 := (by injection e176)
            replace hx176_0 := (HB.out.cell (World.block_lt_of_cell? w _ hx176_0)).trans hx176_0
            replace p176 := eq_true p176
            replace q176 := eq_true q176
            refine start_ (n := 11) (S := fun w' => w'.cell? ⟨gb173, 0, none⟩ = some (u174000) ∧ w'.cell? ⟨gb173, 1, none⟩ = some (u174001) ∧ w'.cell? ⟨gb165, 0, none⟩ = some (.slice (some ad174) l1_0.length c1_0) ∧ w'.cell? ⟨gb165, 1, none⟩ = some (.slice A1_1 l1_1.length c1_1) ∧ w'.cell? (ad174.add (x6_1).toNat) = some (.string (rdOf ByteArray.empty l1_0 x6_1))) (ds := [10]) #[false, false, false, false, false, false, false, false, false, false, false] (by kernel_rfl) rfl rfl ⟨(blk_cell BK173.out 0).trans rfl, (blk_cell BK173.out 1).trans rfl, (blk_cell BK165.out 0).trans rfl, (blk_cell BK165.out 1).trans rfl, ((HB.out.cell (World.block_lt_of_cell? w _ hw176_0)).trans hw176_0)⟩ (fun hHeld => ?_); refine with_tabW spec_Together.tab6 spec_Together.bits6 (fun HT_ HW_ => ?_)
            generalize w37.drew = w38 at HO_174000 HO_174001 BK164 BK165 BK166 BK173 HB hx176_0 hHeld ⊢
            refine pure_ (i := 0) (N := some 32) (v := ?_) (a' := ?_) #[true, false, false, false, false, false, false, false, false, false, false] rfl rfl (any_of HT_.out (by kernel_rfl)) (fun _ _ _ h => h) (Or.inl ⟨by rfl, ?_⟩) ?_ ?_
            rotate_left
            ·intro w'
             go_simp
             with_reducible rfl
            rotate_left
            ·simp only [Act.put, List.setIfInBounds_toArray, List.set_cons_zero, List.set_cons_succ, i64_w, i32_w]
             rfl
            refine pure_ (i := 2) (N := some 34) (v := ?_) (a' := ?_) #[true, false, true, false, false, false, false, false, false, false, false] rfl rfl (any_of HT_.out (by kernel_rfl)) (fun _ _ _ h => h) (Or.inl ⟨by rfl, ?_⟩) ?_ ?_
            rotate_left
            ·intro w'
             go_simp
             with_reducible rfl
            rotate_left
            ·simp only [Act.put, List.setIfInBounds_toArray, List.set_cons_zero, List.set_cons_succ, i64_w, i32_w]
             rfl
            refine pure_ (i := 4) (N := some 36) (v := ?_) (a' := ?_) #[true, false, true, false, true, false, false, false, false, false, false] rfl rfl (any_of HT_.out (by kernel_rfl)) (fun _ _ _ h => h) (Or.inl ⟨by rfl, ?_⟩) ?_ ?_
            rotate_left
            ·intro w'
             go_simp
             with_reducible rfl
            rotate_left
            ·simp only [Act.put, List.setIfInBounds_toArray, List.set_cons_zero, List.set_cons_succ, i64_w, i32_w]
             rfl
            refine take_ (i := 1) (N := some 33) (v := ?_) (a' := ?_) #[true, true, true, false, true, false, false, false, false, false, false] rfl rfl (take_ofW HT_.out HW_.out (by kernel_rfl)) (fun _ _ _ h => h) (Or.inl ⟨by rfl, ?_⟩) hHeld ?_ ?_
            rotate_left
            ·rintro w' ⟨s0, s1, s2, s3, s4⟩
             go_simp
             with_reducible rfl
            rotate_left
            ·simp only [Act.put, List.setIfInBounds_toArray, List.set_cons_zero, List.set_cons_succ, i64_w, i32_w]
             rfl
            refine take_ (i := 3) (N := some 35) (v := ?_) (a' := ?_) #[true, true, true, true, true, false, false, false, false, false, false] rfl rfl (take_ofW HT_.out HW_.out (by kernel_rfl)) (fun _ _ _ h => h) (Or.inl ⟨by rfl, ?_⟩) hHeld ?_ ?_
            rotate_left
            ·rintro w' ⟨s0, s1, s2, s3, s4⟩
             go_simp
             with_reducible rfl
            rotate_left
            ·simp only [Act.put, List.setIfInBounds_toArray, List.set_cons_zero, List.set_cons_succ, i64_w, i32_w]
             rfl
            refine pure_ (i := 5) (N := some 37) (v := ?_) (a' := ?_) #[true, true, true, true, true, true, false, false, false, false, false] rfl rfl (any_of HT_.out (by kernel_rfl)) (fun _ _ _ h => h) (Or.inl ⟨by rfl, ?_⟩) ?_ ?_
            rotate_left
            ·intro w'
             go_simp
             with_reducible rfl
            rotate_left
            ·simp only [Act.put, List.setIfInBounds_toArray, List.set_cons_zero, List.set_cons_succ, i64_w, i32_w]
             rfl
            refine take_ (i := 6) (N := some 38) (v := ?_) (a' := ?_) #[true, true, true, true, true, true, true, false, false, false, false] rfl rfl (take_ofW HT_.out HW_.out (by kernel_rfl)) (fun _ _ _ h => h) (Or.inl ⟨by rfl, ?_⟩) hHeld ?_ ?_
            rotate_left
            ·rintro w' ⟨s0, s1, s2, s3, s4⟩
             go_simp
             with_reducible rfl
            rotate_left
            ·simp only [Act.put, List.setIfInBounds_toArray, List.set_cons_zero, List.set_cons_succ, i64_w, i32_w]
             rfl
            refine one_ (i := 7) (N := some 39) #[true, true, true, true, true, true, true, true, false, false, false] rfl rfl (one_of HT_.out (by kernel_rfl)) (by decide) (fun K hK => ?_)
            refine value_ (w1 := ?_) (v := ?_) (by rfl) rfl ?_ ?_
            rotate_left 2
            ·go_simp
             constructor
             ·rfl
             ·rfl
            refine hK.out _ _ ⟨(blk_cell (blk_alloc BK173.out _) 0).trans rfl, (blk_cell (blk_alloc BK173.out _) 1).trans rfl, (blk_cell (blk_alloc BK165.out _) 0).trans rfl, (blk_cell (blk_alloc BK165.out _) 1).trans rfl, (World.cell?_alloc_lt _ _ _ (World.block_lt_of_cell? _ _ (((HB.out.cell (World.block_lt_of_cell? w _ hw176_0)).trans hw176_0)))).trans (((HB.out.cell (World.block_lt_of_cell? w _ hw176_0)).trans hw176_0))⟩ (fun hHeld => ?_)
            clear hK K
            refine norm_ (a' := ?_) ?_ ?_
            rotate_left
            ·show Act.put _ (some 39) _ = _
             simp only [Act.put, List.setIfInBounds_toArray, List.set_cons_zero, List.set_cons_succ, i64_w, i32_w]
             rfl
            refine one_ (i := 8) (N := some 40) #[true, true, true, true, true, true, true, true, true, false, false] rfl rfl (one_of HT_.out (by kernel_rfl)) (by decide) (fun K hK => ?_)
            refine Kd.R_append_step Kd.string (w0 := w) w.heap.size (by rfl) (.tmp 33) (.tmp 39) 22 9 (.string ⟨#[]⟩) 16 rfl Try.underlying22 info9 rfl (by decide) (by omega) u174000 x174000_1 (rdOf ByteArray.empty l1_0 x6_1) [.string (rdOf ByteArray.empty l1_0 x6_1)] (fun _ => True) (fun _ => False) rfl rfl ?aP (fun _ hk => hk.elim) ?aF ?aO ?aB ?aS ?aL ?_
            (case aP => exact rfl)
            (case aB => exact (Hf_ HB))
            (case aF => exact (fun _ _ => trivial))
            (case aO => exact (Rq_ HO_174000))
            (case aS => exact (below_size (Hf_ HB)))
            (case aL => have := LMc34.out; omega)
            intro v178 w39 ho hb hg hat
            rw [← Ny177.out] at ho
            have n0_ := Aside0.mk (Kd.R_over' (Rq_ HO_174001) (Kd.R_typed (Rq_ HO_174000)) (by decide) hg)
            have n1_ := Aside0.mk (blk_grown (g := gb164) (o := .cells #[.slice A0_0 l0_0.length c0_0, .slice A0_1 l0_1.length c0_1] 28 (0, 0)) (Bq_ BK164) hg (Kd.R_ne HO_174000.out BK164.out (by decide)))
            have n2_ := Aside0.mk (blk_grown (g := gb165) (o := .cells #[.slice (some ad174) l1_0.length c1_0, .slice A1_1 l1_1.length c1_1] 28 (0, 0)) (Bq_ BK165) hg (Kd.R_ne HO_174000.out BK165.out (by decide)))
            have n3_ := Aside0.mk (blk_grown (g := gb166) (o := .cells #[.slice none 0 0, .slice none 0 0] 28 (0, 0)) (Bq_ BK166) hg (Kd.R_ne HO_174000.out BK166.out (by decide)))
            have n4_ := Aside0.mk (blk_grown (g := gb173) (o := .cells #[u174000, u174001] 28 (0, 0)) (Bq_ BK173) hg (Kd.R_ne HO_174000.out BK173.out (by decide)))
            have n5_ := Aside0.mk (hb)
            have n6_ := Aside0.mk (ho)
            clear HO_174001
            clear BK164
            clear BK165
            clear BK166
            clear BK173
            clear HB
            clear HO_174000
            have HO_174001 := n0_
            have BK164 := n1_
            have BK165 := n2_
            have BK166 := n3_
            have BK173 := n4_
            have HB := n5_
            have HO179 := n6_
            clear n0_ n1_ n2_ n3_ n4_ n5_ n6_
            clear ho hb hg hat
            obtain ⟨Ao40, co40, eo40⟩ := Kd.R_slice HO179.out
            (first | subst eo40 | (injection eo40 with f1_ f2_ f3_; have f4_ := f1_.symm; have f5_ := f3_.symm; clear f1_ f2_ f3_; subst f4_; subst f5_))
            refine hK.out _ _ ⟨(blk_cell BK173.out 0).trans rfl, (blk_cell BK173.out 1).trans rfl, (blk_cell BK165.out 0).trans rfl, (blk_cell BK165.out 1).trans rfl, ((HB.out.cell (World.block_lt_of_cell? w _ hw176_0)).trans hw176_0)⟩ (fun hHeld => ?_)
            clear hK K
            refine norm_ (a' := ?_) ?_ ?_
            rotate_left
            ·show Act.put _ (some 40) _ = _
             simp only [Act.put, List.setIfInBounds_toArray, List.set_cons_zero, List.set_cons_succ, i64_w, i32_w]
             rfl
            refine pure_ (i := 9) (N := some 41) (v := ?_) (a' := ?_) #[true, true, true, true, true, true, true, true, true, true, false] rfl rfl (any_of HT_.out (by kernel_rfl)) (fun _ _ _ h => h) (Or.inl ⟨by rfl, ?_⟩) ?_ ?_
            rotate_left
            ·intro w'
             go_simp
             with_reducible rfl
            rotate_left
            ·simp only [Act.put, List.setIfInBounds_toArray, List.set_cons_zero, List.set_cons_succ, i64_w, i32_w]
             rfl
            refine last_ (i := 10) (N := none) #[true, true, true, true, true, true, true, true, true, true, true] rfl rfl (one_of HT_.out (by kernel_rfl)) (by decide) (fun K hK => ?_)
            have hs41 : w39.cell? ⟨gb173, 0, none⟩ = some (u174000) := (blk_cell BK173.out 0).trans rfl
            have hfs41 := blk_frozen BK173.out 0
            have hns41_0 := NB164_173.out
            have hns41_1 := NB165_173.out
            have hns41_2 := NB166_173.out
            have hms41_0 := NB173_164.out
            have hms41_1 := NB173_165.out
            have hms41_2 := NB173_166.out
            refine skip_ (w1 := ?_) (by rfl) rfl ?_ ?_
            rotate_left
            ·go_simp
             rfl
            refine hK.out _ _ ?_
            clear hK K
            refine done_ (done_of HT_.out (by kernel_rfl)) ?_
            try go_wp2
            have n0_ : Aside0 (Kd.R (Kd.int .i64) 3 (w39.setCell ⟨gb173, 0, none⟩ (.slice Ao40 y177.length co40)) w.heap.size (fun _ => True) u174001 x174001_1) := ⟨by (with_reducible repeat (first | apply Kd.R_alloc | apply Kd.R_drewN | apply Kd.R_drew)); exact Kd.R_mono (Kd.R_far (p := ⟨gb173, 0, none⟩) (Kd.R_types HO_174001.out BK173.out (by decide)) (fun _ hk => hk.2) (.slice Ao40 y177.length co40)) (fun _ hk => trivial)⟩
            have n1_ : Aside0 (Kd.R Kd.string 9 (w39.setCell ⟨gb173, 0, none⟩ (.slice Ao40 y177.length co40)) w.heap.size (fun _ => True) (.slice Ao40 y177.length co40) y177) := ⟨by (with_reducible repeat (first | apply Kd.R_alloc | apply Kd.R_drewN | apply Kd.R_drew)); exact Kd.R_mono (Kd.R_far (p := ⟨gb173, 0, none⟩) (Kd.R_types HO179.out BK173.out (by decide)) (fun _ hk => hk.2) (.slice Ao40 y177.length co40)) (fun _ hk => trivial)⟩
            have n2_ : Aside0 ((w39.setCell ⟨gb173, 0, none⟩ (.slice Ao40 y177.length co40)).heap[gb164]? = some (.cells #[.slice A0_0 l0_0.length c0_0, .slice A0_1 l0_1.length c0_1] 28 (0, 0))) := ⟨by (with_reducible repeat (first | refine blk_drewN ?_ _ | refine blk_drew ?_ | refine blk_alloc ?_ _)); refine blk_far ?_ NB164_173.out _; (with_reducible repeat (first | refine blk_drewN ?_ _ | refine blk_drew ?_ | refine blk_alloc ?_ _)); exact BK164.out⟩
            have n3_ : Aside0 ((w39.setCell ⟨gb173, 0, none⟩ (.slice Ao40 y177.length co40)).heap[gb165]? = some (.cells #[.slice (some ad174) l1_0.length c1_0, .slice A1_1 l1_1.length c1_1] 28 (0, 0))) := ⟨by (with_reducible repeat (first | refine blk_drewN ?_ _ | refine blk_drew ?_ | refine blk_alloc ?_ _)); refine blk_far ?_ NB165_173.out _; (with_reducible repeat (first | refine blk_drewN ?_ _ | refine blk_drew ?_ | refine blk_alloc ?_ _)); exact BK165.out⟩
            have n4_ : Aside0 ((w39.setCell ⟨gb173, 0, none⟩ (.slice Ao40 y177.length co40)).heap[gb166]? = some (.cells #[.slice none 0 0, .slice none 0 0] 28 (0, 0))) := ⟨by (with_reducible repeat (first | refine blk_drewN ?_ _ | refine blk_drew ?_ | refine blk_alloc ?_ _)); refine blk_far ?_ NB166_173.out _; (with_reducible repeat (first | refine blk_drewN ?_ _ | refine blk_drew ?_ | refine blk_alloc ?_ _)); exact BK166.out⟩
            have n5_ : Aside0 ((w39.setCell ⟨gb173, 0, none⟩ (.slice Ao40 y177.length co40)).heap[gb173]? = some (.cells #[.slice Ao40 y177.length co40, u174001] 28 (0, 0))) := ⟨by (with_reducible repeat (first | refine blk_drewN ?_ _ | refine blk_drew ?_ | refine blk_alloc ?_ _)); refine blk_put (cs := #[u174000, u174001]) ?_ 0 _ rfl; (with_reducible repeat (first | refine blk_drewN ?_ _ | refine blk_drew ?_ | refine blk_alloc ?_ _)); exact BK173.out⟩
            have n6_ : Aside0 (Below w.heap.size w (w39.setCell ⟨gb173, 0, none⟩ (.slice Ao40 y177.length co40))) := ⟨Hf_ HB⟩
            (try clear HO_174001)
            (try clear HO179)
            (try clear BK164)
            (try clear BK165)
            (try clear BK166)
            (try clear BK173)
            (try clear HB)
            generalize (w39.setCell ⟨gb173, 0, none⟩ (.slice Ao40 y177.length co40)) = w42 at n0_ n1_ n2_ n3_ n4_ n5_ n6_ ⊢
            have HO_174001 := n0_
            have HO179 := n1_
            have BK164 := n2_
            have BK165 := n3_
            have BK166 := n4_
            have BK173 := n5_
            have HB := n6_
            clear n0_ n1_ n2_ n3_ n4_ n5_ n6_
            replace HO_174001 := Aside0.mk (Kd.R_drew HO_174001.out); replace HO179 := Aside0.mk (Kd.R_drew HO179.out); replace BK164 := Aside0.mk (blk_drew BK164.out); replace BK165 := Aside0.mk (blk_drew BK165.out); replace BK166 := Aside0.mk (blk_drew BK166.out); replace BK173 := Aside0.mk (blk_drew BK173.out); replace HB := Aside0.mk (below_drew1 HB.out)
            have p180 : 0 ≤ (x6_1 : Int) := of_decide_eq_true As_
            have q180 : x6_1 < (l1_1.length : Int) := of_decide_eq_true As_
            obtain ⟨ad180, e180, hx180_0⟩ := Kd.at_int HR1_1.out x6_1 p180 q180
            have hw180_0 := hx180_0
            cases e180
            replace hx180_0 := (HB.out.cell (World.block_lt_of_cell? w _ hx180_0)).trans hx180_0
            replace p180 := eq_true p180
            replace q180 := eq_true q180
            refine start_ (n := 11) (S := fun w' => w'.cell? ⟨gb173, 0, none⟩ = some (.slice Ao40 y177.length co40) ∧ w'.cell? ⟨gb173, 1, none⟩ = some (u174001) ∧ w'.cell? ⟨gb165, 0, none⟩ = some (.slice (some ad174) l1_0.length c1_0) ∧ w'.cell? ⟨gb165, 1, none⟩ = some (.slice (some ad180) l1_1.length c1_1) ∧ w'.cell? (ad180.add (x6_1).toNat) = some (.int .i64 (rd l1_1 x6_1))) (ds := [10]) #[false, false, false, false, false, false, false, false, false, false, false] (by kernel_rfl) rfl rfl ⟨(blk_cell BK173.out 0).trans rfl, (blk_cell BK173.out 1).trans rfl, (blk_cell BK165.out 0).trans rfl, (blk_cell BK165.out 1).trans rfl, ((HB.out.cell (World.block_lt_of_cell? w _ hw180_0)).trans hw180_0)⟩ (fun hHeld => ?_); refine with_tabW spec_Together.tab7 spec_Together.bits7 (fun HT_ HW_ => ?_)
            generalize w42.drew = w43 at HO_174001 HO179 BK164 BK165 BK166 BK173 HB hx180_0 hHeld ⊢
            refine pure_ (i := 0) (N := some 42) (v := ?_) (a' := ?_) #[true, false, false, false, false, false, false, false, false, false, false] rfl rfl (any_of HT_.out (by kernel_rfl)) (fun _ _ _ h => h) (Or.inl ⟨by rfl, ?_⟩) ?_ ?_
            rotate_left
            ·intro w'
             go_simp
             with_reducible rfl
            rotate_left
            ·simp only [Act.put, List.setIfInBounds_toArray, List.set_cons_zero, List.set_cons_succ, i64_w, i32_w]
             rfl
            refine pure_ (i := 2) (N := some 44) (v := ?_) (a' := ?_) #[true, false, true, false, false, false, false, false, false, false, false] rfl rfl (any_of HT_.out (by kernel_rfl)) (fun _ _ _ h => h) (Or.inl ⟨by rfl, ?_⟩) ?_ ?_
            rotate_left
            ·intro w'
             go_simp
             with_reducible rfl
            rotate_left
            ·simp only [Act.put, List.setIfInBounds_toArray, List.set_cons_zero, List.set_cons_succ, i64_w, i32_w]
             rfl
            refine pure_ (i := 4) (N := some 46) (v := ?_) (a' := ?_) #[true, false, true, false, true, false, false, false, false, false, false] rfl rfl (any_of HT_.out (by kernel_rfl)) (fun _ _ _ h => h) (Or.inl ⟨by rfl, ?_⟩) ?_ ?_
            rotate_left
            ·intro w'
             go_simp
             with_reducible rfl
            rotate_left
            ·simp only [Act.put, List.setIfInBounds_toArray, List.set_cons_zero, List.set_cons_succ, i64_w, i32_w]
             rfl
            refine take_ (i := 1) (N := some 43) (v := ?_) (a' := ?_) #[true, true, true, false, true, false, false, false, false, false, false] rfl rfl (take_ofW HT_.out HW_.out (by kernel_rfl)) (fun _ _ _ h => h) (Or.inl ⟨by rfl, ?_⟩) hHeld ?_ ?_
            rotate_left
            ·rintro w' ⟨s0, s1, s2, s3, s4⟩
             go_simp
             with_reducible rfl
            rotate_left
            ·simp only [Act.put, List.setIfInBounds_toArray, List.set_cons_zero, List.set_cons_succ, i64_w, i32_w]
             rfl
            refine take_ (i := 3) (N := some 45) (v := ?_) (a' := ?_) #[true, true, true, true, true, false, false, false, false, false, false] rfl rfl (take_ofW HT_.out HW_.out (by kernel_rfl)) (fun _ _ _ h => h) (Or.inl ⟨by rfl, ?_⟩) hHeld ?_ ?_
            rotate_left
            ·rintro w' ⟨s0, s1, s2, s3, s4⟩
             go_simp
             with_reducible rfl
            rotate_left
            ·simp only [Act.put, List.setIfInBounds_toArray, List.set_cons_zero, List.set_cons_succ, i64_w, i32_w]
             rfl
            refine pure_ (i := 5) (N := some 47) (v := ?_) (a' := ?_) #[true, true, true, true, true, true, false, false, false, false, false] rfl rfl (any_of HT_.out (by kernel_rfl)) (fun _ _ _ h => h) (Or.inl ⟨by rfl, ?_⟩) ?_ ?_
            rotate_left
            ·intro w'
             go_simp
             with_reducible rfl
            rotate_left
            ·simp only [Act.put, List.setIfInBounds_toArray, List.set_cons_zero, List.set_cons_succ, i64_w, i32_w]
             rfl
            refine take_ (i := 6) (N := some 48) (v := ?_) (a' := ?_) #[true, true, true, true, true, true, true, false, false, false, false] rfl rfl (take_ofW HT_.out HW_.out (by kernel_rfl)) (fun _ _ _ h => h) (Or.inl ⟨by rfl, ?_⟩) hHeld ?_ ?_
            rotate_left
            ·rintro w' ⟨s0, s1, s2, s3, s4⟩
             go_simp
             with_reducible rfl
            rotate_left
            ·simp only [Act.put, List.setIfInBounds_toArray, List.set_cons_zero, List.set_cons_succ, i64_w, i32_w]
             rfl
            refine one_ (i := 7) (N := some 49) #[true, true, true, true, true, true, true, true, false, false, false] rfl rfl (one_of HT_.out (by kernel_rfl)) (by decide) (fun K hK => ?_)
            refine value_ (w1 := ?_) (v := ?_) (by rfl) rfl ?_ ?_
            rotate_left 2
            ·go_simp
             constructor
             ·rfl
             ·rfl
            refine hK.out _ _ ⟨(blk_cell (blk_alloc BK173.out _) 0).trans rfl, (blk_cell (blk_alloc BK173.out _) 1).trans rfl, (blk_cell (blk_alloc BK165.out _) 0).trans rfl, (blk_cell (blk_alloc BK165.out _) 1).trans rfl, (World.cell?_alloc_lt _ _ _ (World.block_lt_of_cell? _ _ (((HB.out.cell (World.block_lt_of_cell? w _ hw180_0)).trans hw180_0)))).trans (((HB.out.cell (World.block_lt_of_cell? w _ hw180_0)).trans hw180_0))⟩ (fun hHeld => ?_)
            clear hK K
            refine norm_ (a' := ?_) ?_ ?_
            rotate_left
            ·show Act.put _ (some 49) _ = _
             simp only [Act.put, List.setIfInBounds_toArray, List.set_cons_zero, List.set_cons_succ, i64_w, i32_w]
             rfl
            refine one_ (i := 8) (N := some 50) #[true, true, true, true, true, true, true, true, true, false, false] rfl rfl (one_of HT_.out (by kernel_rfl)) (by decide) (fun K hK => ?_)
            refine Kd.R_append_step (Kd.int .i64) (w0 := w) w.heap.size (by rfl) (.tmp 43) (.tmp 49) 23 3 (.int .i64 0) 8 rfl Try.underlying23 info3 rfl (by decide) (by omega) u174001 x174001_1 (rd l1_1 x6_1) [.int .i64 (rd l1_1 x6_1)] (fun _ => True) (fun _ => False) rfl rfl ?aP (fun _ hk => hk.elim) ?aF ?aO ?aB ?aS ?aL ?_
            (case aP => exact rfl)
            (case aB => exact (Hf_ HB))
            (case aF => exact (fun _ _ => trivial))
            (case aO => exact (Rq_ HO_174001))
            (case aS => exact (below_size (Hf_ HB)))
            (case aL => have := LMc36.out; omega)
            intro v182 w44 ho hb hg hat
            rw [← Ny181.out] at ho
            have n0_ := Aside0.mk (blk_grown (g := gb164) (o := .cells #[.slice A0_0 l0_0.length c0_0, .slice A0_1 l0_1.length c0_1] 28 (0, 0)) (Bq_ BK164) hg (Kd.R_ne HO_174001.out BK164.out (by decide)))
            have n1_ := Aside0.mk (blk_grown (g := gb165) (o := .cells #[.slice (some ad174) l1_0.length c1_0, .slice (some ad180) l1_1.length c1_1] 28 (0, 0)) (Bq_ BK165) hg (Kd.R_ne HO_174001.out BK165.out (by decide)))
            have n2_ := Aside0.mk (blk_grown (g := gb166) (o := .cells #[.slice none 0 0, .slice none 0 0] 28 (0, 0)) (Bq_ BK166) hg (Kd.R_ne HO_174001.out BK166.out (by decide)))
            have n3_ := Aside0.mk (blk_grown (g := gb173) (o := .cells #[.slice Ao40 y177.length co40, u174001] 28 (0, 0)) (Bq_ BK173) hg (Kd.R_ne HO_174001.out BK173.out (by decide)))
            have n4_ := Aside0.mk (Kd.R_over' (Rq_ HO179) (Kd.R_typed (Rq_ HO_174001)) (by decide) hg)
            have n5_ := Aside0.mk (hb)
            have n6_ := Aside0.mk (ho)
            clear BK164
            clear BK165
            clear BK166
            clear BK173
            clear HO179
            clear HB
            clear HO_174001
            have BK164 := n0_
            have BK165 := n1_
            have BK166 := n2_
            have BK173 := n3_
            have HO179 := n4_
            have HB := n5_
            have HO183 := n6_
            clear n0_ n1_ n2_ n3_ n4_ n5_ n6_
            clear ho hb hg hat
            obtain ⟨Ao45, co45, eo45⟩ := Kd.R_slice HO183.out
            (first | subst eo45 | (injection eo45 with f1_ f2_ f3_; have f4_ := f1_.symm; have f5_ := f3_.symm; clear f1_ f2_ f3_; subst f4_; subst f5_))
            refine hK.out _ _ ⟨(blk_cell BK173.out 0).trans rfl, (blk_cell BK173.out 1).trans rfl, (blk_cell BK165.out 0).trans rfl, (blk_cell BK165.out 1).trans rfl, ((HB.out.cell (World.block_lt_of_cell? w _ hw180_0)).trans hw180_0)⟩ (fun hHeld => ?_)
            clear hK K
            refine norm_ (a' := ?_) ?_ ?_
            rotate_left
            ·show Act.put _ (some 50) _ = _
             simp only [Act.put, List.setIfInBounds_toArray, List.set_cons_zero, List.set_cons_succ, i64_w, i32_w]
             rfl
            refine pure_ (i := 9) (N := some 51) (v := ?_) (a' := ?_) #[true, true, true, true, true, true, true, true, true, true, false] rfl rfl (any_of HT_.out (by kernel_rfl)) (fun _ _ _ h => h) (Or.inl ⟨by rfl, ?_⟩) ?_ ?_
            rotate_left
            ·intro w'
             go_simp
             with_reducible rfl
            rotate_left
            ·simp only [Act.put, List.setIfInBounds_toArray, List.set_cons_zero, List.set_cons_succ, i64_w, i32_w]
             rfl
            refine last_ (i := 10) (N := none) #[true, true, true, true, true, true, true, true, true, true, true] rfl rfl (one_of HT_.out (by kernel_rfl)) (by decide) (fun K hK => ?_)
            have hs46 : w44.cell? ⟨gb173, 1, none⟩ = some (u174001) := (blk_cell BK173.out 1).trans rfl
            have hfs46 := blk_frozen BK173.out 1
            have hns46_0 := NB164_173.out
            have hns46_1 := NB165_173.out
            have hns46_2 := NB166_173.out
            have hms46_0 := NB173_164.out
            have hms46_1 := NB173_165.out
            have hms46_2 := NB173_166.out
            refine skip_ (w1 := ?_) (by rfl) rfl ?_ ?_
            rotate_left
            ·go_simp
             rfl
            refine hK.out _ _ ?_
            clear hK K
            refine done_ (done_of HT_.out (by kernel_rfl)) ?_
            try go_wp2
            go_roundg kj17
            case measure => have := HK1.out; have := HJ17.out; omega
            case rel => exact ⟨(wrap64 (x6_1 + 1)), (y177), (y181), (.slice Ao40 y177.length co40), (.slice Ao45 y181.length co45), (by first | rfl | (simp; done) | (simp [*]; done)), H', ⟨by have := HK1.out; have := HJ17.out; omega⟩, ⟨by (with_reducible repeat (first | apply Kd.R_alloc | apply Kd.R_drewN | apply Kd.R_drew)); exact Kd.R_mono (Kd.R_far (p := ⟨gb173, 1, none⟩) (Kd.R_types HO179.out BK173.out (by decide)) (fun _ hk => hk.2) (.slice Ao45 y181.length co45)) (fun _ hk => trivial)⟩, ⟨by (with_reducible repeat (first | apply Kd.R_alloc | apply Kd.R_drewN | apply Kd.R_drew)); exact Kd.R_mono (Kd.R_far (p := ⟨gb173, 1, none⟩) (Kd.R_types HO183.out BK173.out (by decide)) (fun _ hk => hk.2) (.slice Ao45 y181.length co45)) (fun _ hk => trivial)⟩, ⟨by (with_reducible repeat (first | refine blk_drewN ?_ _ | refine blk_drew ?_ | refine blk_alloc ?_ _)); refine blk_far ?_ NB164_173.out _; (with_reducible repeat (first | refine blk_drewN ?_ _ | refine blk_drew ?_ | refine blk_alloc ?_ _)); exact BK164.out⟩, ⟨by (with_reducible repeat (first | refine blk_drewN ?_ _ | refine blk_drew ?_ | refine blk_alloc ?_ _)); refine blk_far ?_ NB165_173.out _; (with_reducible repeat (first | refine blk_drewN ?_ _ | refine blk_drew ?_ | refine blk_alloc ?_ _)); exact BK165.out⟩, ⟨by (with_reducible repeat (first | refine blk_drewN ?_ _ | refine blk_drew ?_ | refine blk_alloc ?_ _)); refine blk_far ?_ NB166_173.out _; (with_reducible repeat (first | refine blk_drewN ?_ _ | refine blk_drew ?_ | refine blk_alloc ?_ _)); exact BK166.out⟩, ⟨by (with_reducible repeat (first | refine blk_drewN ?_ _ | refine blk_drew ?_ | refine blk_alloc ?_ _)); refine blk_put (cs := #[.slice Ao40 y177.length co40, u174001]) ?_ 1 _ rfl; (with_reducible repeat (first | refine blk_drewN ?_ _ | refine blk_drew ?_ | refine blk_alloc ?_ _)); exact BK173.out⟩, ⟨Hf_ HB⟩⟩
           ·rw [if_neg c36] at H
            exact absurd H (by simp)
          ·rw [if_neg c35] at H
           exact absurd H (by simp)
         ·rw [if_neg c34] at H
          exact absurd H (by simp)
       ·rw [if_neg c30] at H
        exact absurd H (by simp)
      ·rw [if_neg c29] at H
       exact absurd H (by simp)
     ·replace c28 := Bool.eq_false_iff.mpr c28
      subst c28
      have H1 : (some (x174000_1, x174001_1)) = some (r1, r2) := by rw [if_neg (show ¬ (false = true) by decide)] at H; exact H
      clear H
      have H := H1
      clear H1
      simp only [Option.some.injEq, Prod.mk.injEq] at H
      obtain ⟨rfl, rfl⟩ := H
      have hnb47 := NB173_164.out
      have hnc47 := NB164_173.out
      have hnb48 := NB173_165.out
      have hnc48 := NB165_173.out
      have hnb49 := NB173_166.out
      have hnc49 := NB166_173.out
      obtain ⟨hcz50_0, hcz50_1, hfz50_0, hfz50_1⟩ := Bc2_ BK173
      obtain ⟨Ao51, co51, eo51⟩ := Kd.R_slice HO_174000.out
      subst eo51
      have hnb52 := NB166_164.out
      have hnc52 := NB164_166.out
      have hnb53 := NB166_165.out
      have hnc53 := NB165_166.out
      obtain ⟨hcz54_0, hcz54_1, hfz54_0, hfz54_1⟩ := Bc2_ BK166
      obtain ⟨Ao55, co55, eo55⟩ := Kd.R_slice HO_174001.out
      subst eo55
      go_wp2
      refine bodyPost_ret (results_cell_row rfl _ _ gb166 28 #[.slice Ao51 x174000_1.length co51, .slice Ao55 x174001_1.length co55] (0, 0) _ rfl (by (with_reducible repeat (first | refine blk_drewN ?_ _ | refine blk_drew ?_ | refine blk_alloc ?_ _)); refine blk_put (cs := #[.slice Ao51 x174000_1.length co51, .slice none 0 0]) ?_ 1 _ rfl; (with_reducible repeat (first | refine blk_drewN ?_ _ | refine blk_drew ?_ | refine blk_alloc ?_ _)); refine blk_put (cs := #[.slice none 0 0, .slice none 0 0]) ?_ 0 _ rfl; (with_reducible repeat (first | refine blk_drewN ?_ _ | refine blk_drew ?_ | refine blk_alloc ?_ _)); exact BK166.out) Try.underlying28 rfl (by kernel_rfl)) rfl ?_
      exact ⟨_, _, Re_, by (with_reducible repeat (first | apply Kd.R_alloc | apply Kd.R_drewN | apply Kd.R_drew)); exact Kd.R_mono (Kd.R_far (p := ⟨gb166, 1, none⟩) (Kd.R_far (p := ⟨gb166, 0, none⟩) (Kd.R_types HO_174000.out BK166.out (by decide)) (fun _ hk => hk.2) (.slice Ao51 x174000_1.length co51)) (fun _ hk => hk.2) (.slice Ao55 x174001_1.length co55)) (fun _ hk => trivial), by (with_reducible repeat (first | apply Kd.R_alloc | apply Kd.R_drewN | apply Kd.R_drew)); exact Kd.R_mono (Kd.R_far (p := ⟨gb166, 1, none⟩) (Kd.R_far (p := ⟨gb166, 0, none⟩) (Kd.R_types HO_174001.out BK166.out (by decide)) (fun _ hk => hk.2) (.slice Ao51 x174000_1.length co51)) (fun _ hk => hk.2) (.slice Ao55 x174001_1.length co55)) (fun _ hk => trivial), Hf_ HB⟩

end Go.Proofs.Ytegeahiflkjhmaa.PFnExactTogether
