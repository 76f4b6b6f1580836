/- The machine side of the law FnExactEntryAt: for each function that it reaches, a Lean function and its contract. Written by a program of this session's over the kit's print. No condition. -/
import Derived.Test.YtegeahiflkjhmaaCmq
import Derived.Test.YtegeahiflkjhmaaPFnExactEntryAtx0
import Derived.Test.YtegeahiflkjhmaaPFnExactEntryAtx2
import Derived.Test.YtegeahiflkjhmaaPFnExactEntryAtx3
import Derived.Test.YtegeahiflkjhmaaPFnExactEntryAtx7
namespace Go.Proofs.Ytegeahiflkjhmaa.PFnExactEntryAt
open Go.RowKit Go.Proofs.YtegeahiflkjhmaaW.PrintWords Go.Proofs.YtegeahiflkjhmaaW.PrintLast Go.Proofs.YtegeahiflkjhmaaW.PrintMore Go.Proofs.Ytegeahiflkjhmaa.Cmp
attribute [local go_sem] max2_int min2_int max_two min_two max_three min_three max_four min_four   -- for this text's walks alone
set_option linter.unusedVariables false
set_option maxHeartbeats 8000000
set_option maxRecDepth 100000
set_option linter.unusedSimpArgs false

/-! ### impl_isMonitor: function 103 -/
def impl_isMonitor.f (l0_0 : List (S132)) (l0_1 : List (S114)) (l0_2 : List (S130)) (a1 : Int) : Option (Bool) := (impl_within.f a1 0 (wrap64 ((l0_1.length : Int) - 1))).bind fun t266 => (some t266)
theorem impl_isMonitor.calls (A0_0 : Option Addr) (c0_0 : Nat) (l0_0 : List (S132)) (A0_1 : Option Addr) (c0_1 : Nat) (l0_1 : List (S114)) (A0_2 : Option Addr) (c0_2 : Nat) (l0_2 : List (S130)) (a1 : Int) (r : Bool) (w : World) (hr0_0 : Kd.C k132 w A0_0 l0_0.length l0_0) (hc0_0 : l0_0.length ≤ c0_0) (hr0_1 : Kd.C k114 w A0_1 l0_1.length l0_1) (hc0_1 : l0_1.length ≤ c0_1) (hr0_2 : Kd.C k130 w A0_2 l0_2.length l0_2) (hc0_2 : l0_2.length ≤ c0_2) (h : impl_isMonitor.f l0_0 l0_1 l0_2 a1 = some r) :
  Calls Try.prog 103 #[.agg #[.slice A0_0 l0_0.length c0_0, .slice A0_1 l0_1.length c0_1, .slice A0_2 l0_2.length c0_2], .int .i64 a1] w fun e w' => e = .returned (.bool r) ∧ Below w.heap.size w w' := by
 have hu73 := Try.underlying73
 have HR0_0 := Aside0.mk hr0_0
 have HC0_0 := Aside0.mk hc0_0
 clear hr0_0 hc0_0
 have HR0_1 := Aside0.mk hr0_1
 have HC0_1 := Aside0.mk hc0_1
 clear hr0_1 hc0_1
 have HR0_2 := Aside0.mk hr0_2
 have HC0_2 := Aside0.mk hc0_2
 clear hr0_2 hc0_2
 have HB := Aside0.mk (Below.refl w.heap.size w)
 have H : ((impl_within.f a1 0 (wrap64 ((l0_1.length : Int) - 1))).bind fun t266 => (some t266)) = some r := h
 clear h
 obtain ⟨t266, A3, H⟩ := Bo_ H
 obtain rfl := Option.some.inj H
 go_enter Try.func103, Try.ntmps103
 go_wp2_with (first | (refine Bv_ 2 #[.slice A0_0 l0_0.length c0_0, .slice A0_1 l0_1.length c0_1, .slice A0_2 l0_2.length c0_2] 73 ?_; intro gb265 hg w4 BK265 hb; have GW265 := Hg_ HB hg; replace HB := Hs_ HB hb; clear hb hg; obtain ⟨hcz5_0, hcz5_1, hcz5_2, hfz5_0, hfz5_1, hfz5_2⟩ := Bc3_ BK265) | (refine Gl_ (some 10) Try.func116 ((impl_within.calls a1 0 (wrap64 ((l0_1.length : Int) - 1)) t266 _ A3.out).mono ?_); rintro e w' ⟨rfl, ⟨nd, rfl⟩⟩; refine ⟨_, rfl, ?_⟩))
 go_ret
 exact ⟨Re_, Hf_ HB⟩

-- NOT PRINTED: function 104 (impl_Entry)

-- NOT PRINTED: function 105 (impl_EntryAt_1)

/-! ### impl_EntryAt: function 50 -/
/-- The first place of an element that passes, counted from i on; -1 without one. -/
def impl_EntryAt.idx (p : S125 → Bool) : List S125 → Int → Int
 | [], _ => -1
 | x :: xs, i => if p x = true then i else impl_EntryAt.idx p xs (i + 1)
def impl_EntryAt.p (a1 : ByteArray) (m : S125) : Bool := m.f0.toList == a1.toList
def impl_EntryAt.f (l0_0 : List S132) (l0_1 : List S114) (l0_2 : List S130) (a1 : Int) (a2 : ByteArray) : Option (Int) := (impl_isMonitor.f l0_0 l0_1 l0_2 a1).bind fun t1 => (if t1 = true then (if 0 ≤ a1 then (if a1 < (l0_1.length : Int) then (some (impl_EntryAt.idx (impl_EntryAt.p a2) (rd_T114 l0_1 a1).f3 0)) else none) else none) else (some (-1)))
theorem impl_EntryAt_drop {l : List S125} {i : Int} (h0 : 0 ≤ i) (h1 : i < (l.length : Int)) : l.drop i.toNat = rd_T125 l i :: l.drop (i + 1).toNat := by
 have h2 : i.toNat < l.length := by omega
 rw [List.drop_eq_getElem_cons h2, show (i + 1).toNat = i.toNat + 1 by omega]
 unfold rd_T125
 rw [List.getD_eq_getElem?_getD, List.getElem?_eq_getElem h2]
 rfl
set_option maxHeartbeats 1000000 in
set_option maxRecDepth 100000 in
theorem impl_EntryAt_1.calls (B : Nat) (a1 : ByteArray) (x : S125) (r : Bool) (w : World) (hB : w.cell? ⟨B, 0, none⟩ = some (.string a1)) (h : impl_EntryAt.p a1 x = r) :
  Calls Try.prog 105 #[.agg #[.string x.f0, .string x.f1, .int .i64 x.f2], .pointer (some ⟨B, 0, none⟩)] w fun e w' => e = .returned (.bool r) ∧ Below w.heap.size w w' := by
 have hu1 := Try.underlying125
 have HBC := Aside0.mk hB
 have HB := Aside0.mk (Below.refl w.heap.size w)
 have h' := Aside0.mk h
 clear hB h
 go_enter Try.func105, Try.ntmps105
 go_wp2_with (first | (refine Bv_ 2 #[.string x.f0, .string x.f1, .int .i64 x.f2] 125 ?_; intro gb hg w7 BK hb; replace HB := Hs_ HB hb; have hx0 := Bw_ HBC.out HB; clear hb hg; obtain ⟨hcz0, hcz1, hcz2, hfz0, hfz1, hfz2⟩ := Bc3_ BK))
 go_ret
 exact ⟨by rw [← h'.out]; rfl, Hf_ HB⟩
set_option maxHeartbeats 4000000 in
set_option maxRecDepth 100000 in
theorem impl_EntryAt_func.calls (B : Nat) (a1 : ByteArray) (A0 : Option Addr) (c0 : Nat) (l0 : List S125) (w : World) (hB : w.cell? ⟨B, 0, none⟩ = some (.string a1)) (hr0 : Kd.C k125 w A0 l0.length l0) (hc0 : l0.length ≤ c0) :
  Calls Try.prog 104 #[.slice A0 l0.length c0, .func (.func 105) #[] #[.pointer (some ⟨B, 0, none⟩)]] w fun e w' => e = .returned (.int .i64 (impl_EntryAt.idx (impl_EntryAt.p a1) l0 0)) ∧ Below w.heap.size w w' := by
 have hu1 := Try.underlying125
 have HR0 := Aside0.mk hr0
 have HC0 := Aside0.mk hc0
 have HL0 := Aside0.mk hr0.2.1
 have HBC := Aside0.mk hB
 have HB := Aside0.mk (Below.refl w.heap.size w)
 clear hr0 hc0 hB
 go_enter Try.func104, Try.ntmps104
 go_wp2
 go_loopg [8] l0.length (fun kq v8 w' => ∃ (x8_1 : Int), v8 = .int .i64 x8_1 ∧ Aside0 (0 ≤ x8_1 ∧ x8_1 + kq = l0.length ∧ impl_EntryAt.idx (impl_EntryAt.p a1) l0 0 = impl_EntryAt.idx (impl_EntryAt.p a1) (l0.drop x8_1.toNat) x8_1) ∧ Aside0 (Below w.heap.size w w'))
 case atStart => exact ⟨0, Rr_, ⟨by omega, by omega, rfl⟩, ⟨Hf_ HB⟩⟩
 case round =>
  obtain ⟨x8_1, rfl, HA, HB⟩ := hrel
  cases gk with
  | zero =>
   have c4 : ¬ x8_1 < (l0.length : Int) := by have := HA.out; omega
   have c4b0 := decide_eq_false c4
   clear c4
   go_wp2
   go_ret
   refine ⟨?_, Hf_ HB⟩
   obtain ⟨h1, h2, h3⟩ := HA.out
   rw [h3, List.drop_eq_nil_of_le (by omega)]
   rfl
  | succ k1 =>
   have c4 : x8_1 < (l0.length : Int) := by have := HA.out; omega
   have c5 : 0 ≤ x8_1 := HA.out.1
   have HP4 := Aside0.mk c4
   have HP5 := Aside0.mk c5
   have c4b0 := decide_eq_true c4
   have c5b0 := decide_eq_true c5
   have c6 : wrap64 (x8_1 + 1) = x8_1 + 1 := by have := HL0.out; unfold wrap64; omega
   have HP6 := Aside0.mk c6
   have hst := Aside0.mk (HA.out.2.2.trans (congrArg (fun l => impl_EntryAt.idx (impl_EntryAt.p a1) l x8_1) (impl_EntryAt_drop c5 c4)))
   clear c4 c5 c6
   obtain ⟨ad1, e1, hx1_0, hx1_1, hx1_2⟩ := at_T125 HR0.out x8_1 HP5.out HP4.out
   cases e1
   replace hx1_0 := Bw_ hx1_0 HB
   replace hx1_1 := Bw_ hx1_1 HB
   replace hx1_2 := Bw_ hx1_2 HB
   have p1 := eq_true HP5.out
   have q1 := eq_true HP4.out
   by_cases c7 : impl_EntryAt.p a1 (rd_T125 l0 x8_1) = true
   ·have H7 := Aside0.mk c7
    clear c7
    go_wp2_with (first | (go_at_call 105; refine (impl_EntryAt_1.calls B a1 (rd_T125 l0 x8_1) true _ (Bw_ HBC.out ⟨Hf_ HB⟩) H7.out).mono ?_; rintro e w12 ⟨rfl, hb⟩; replace HB := Hs_ HB hb; clear hb))
    go_ret
    refine ⟨?_, Hf_ HB⟩
    rw [hst.out]
    exact congrArg (fun z => Ending.returned (.int .i64 z)) (if_pos H7.out).symm
   ·have H7 := Aside0.mk (Bool.eq_false_iff.mpr c7)
    have H8 := Aside0.mk c7
    clear c7
    go_wp2_with (first | (go_at_call 105; refine (impl_EntryAt_1.calls B a1 (rd_T125 l0 x8_1) false _ (Bw_ HBC.out ⟨Hf_ HB⟩) H7.out).mono ?_; rintro e w12 ⟨rfl, hb⟩; replace HB := Hs_ HB hb; clear hb))
    go_roundg k1
    case measure => omega
    case rel => exact ⟨(wrap64 (x8_1 + 1)), Rr_, ⟨by rw [HP6.out]; have := HP5.out; omega, by rw [HP6.out]; have := HA.out; omega, by rw [HP6.out]; exact hst.out.trans (if_neg H8.out)⟩, ⟨Hf_ HB⟩⟩
set_option maxHeartbeats 2000000 in
set_option maxRecDepth 100000 in
theorem impl_EntryAt.calls (A0_0 : Option Addr) (c0_0 : Nat) (l0_0 : List S132) (A0_1 : Option Addr) (c0_1 : Nat) (l0_1 : List S114) (A0_2 : Option Addr) (c0_2 : Nat) (l0_2 : List S130) (a1 : Int) (a2 : ByteArray) (r : Int) (w : World) (hr0_0 : Kd.C k132 w A0_0 l0_0.length l0_0) (hc0_0 : l0_0.length ≤ c0_0) (hr0_1 : Kd.C k114 w A0_1 l0_1.length l0_1) (hc0_1 : l0_1.length ≤ c0_1) (hr0_2 : Kd.C k130 w A0_2 l0_2.length l0_2) (hc0_2 : l0_2.length ≤ c0_2) (h : impl_EntryAt.f l0_0 l0_1 l0_2 a1 a2 = some r) :
  Calls Try.prog 50 #[.agg #[.slice A0_0 l0_0.length c0_0, .slice A0_1 l0_1.length c0_1, .slice A0_2 l0_2.length c0_2], .int .i64 a1, .string a2] w fun e w' => e = .returned (.int .i64 r) ∧ Below w.heap.size w w' := by
 have hu1 := Try.underlying73
 have hu2 := Try.underlying114
 have HR0_0 := Aside0.mk hr0_0
 have HC0_0 := Aside0.mk hc0_0
 have HR0_1 := Aside0.mk hr0_1
 have HC0_1 := Aside0.mk hc0_1
 have HR0_2 := Aside0.mk hr0_2
 have HC0_2 := Aside0.mk hc0_2
 clear hr0_0 hc0_0 hr0_1 hc0_1 hr0_2 hc0_2
 have HB := Aside0.mk (Below.refl w.heap.size w)
 unfold impl_EntryAt.f at h
 obtain ⟨t1, A3, H⟩ := Bo_ h
 clear h
 by_cases c4 : t1 = true
 ·subst c4
  rw [if_pos rfl] at H
  by_cases c5 : 0 ≤ a1
  ·rw [if_pos c5] at H
   by_cases c6 : a1 < (l0_1.length : Int)
   ·rw [if_pos c6] at H
    obtain rfl := Option.some.inj H
    clear H
    have HP5 := Aside0.mk c5
    have HP6 := Aside0.mk c6
    have c5b0 := decide_eq_true c5
    have c6b0 := decide_eq_true c6
    clear c5 c6
    obtain ⟨ad1, A1, c1, A2, c2, A3_, c3, e1, hx1_0, hx1_1, hx1_2, hx1_3, h1_, h2_, h3_, h4_, h5_, h6_⟩ := at_T114 HR0_1.out a1 HP5.out HP6.out
    have HRE := Aside0.mk h6_
    have HLE := Aside0.mk h5_
    clear h1_ h2_ h3_ h4_ h5_ h6_
    cases e1
    have HX0 := Aside0.mk hx1_0
    have HX1 := Aside0.mk hx1_1
    have HX2 := Aside0.mk hx1_2
    have HX3 := Aside0.mk hx1_3
    clear hx1_0 hx1_1 hx1_2 hx1_3
    have p1 := eq_true HP5.out
    have q1 := eq_true HP6.out
    go_enter Try.func50, Try.ntmps50
    go_wp2_with (first | (refine Bv_ 3 #[.slice A0_0 l0_0.length c0_0, .slice (some ad1) l0_1.length c0_1, .slice A0_2 l0_2.length c0_2] 73 ?_; intro gb1 hg w7 BK1 hb; replace HB := Hs_ HB hb; clear hb hg) | (refine Bv_ 5 #[.string a2] 9 ?_; intro gb2 hg w8 BK2 hb; have NB := Bl_ BK1 hg; replace BK1 := Bb_ BK1 hb; replace HB := Hs_ HB hb; clear hb hg; obtain ⟨hcz0, hcz1, hcz2, hfz0, hfz1, hfz2⟩ := Bc3_ BK1) | (go_at_call 103; refine (impl_isMonitor.calls _ _ l0_0 _ _ l0_1 _ _ l0_2 a1 true _ (Sc_ HR0_0 HB) HC0_0.out (Sc_ HR0_1 HB) HC0_1.out (Sc_ HR0_2 HB) HC0_2.out A3.out).mono ?_; rintro e w12 ⟨rfl, hb⟩; replace BK1 := Bb_ BK1 hb; replace BK2 := Bb_ BK2 hb; replace HB := Hs_ HB hb; clear hb; obtain ⟨hcy0, hcy1, hcy2, hfy0, hfy1, hfy2⟩ := Bc3_ BK1; have hx1_0 := Bw_ HX0.out HB; have hx1_1 := Bw_ HX1.out HB; have hx1_2 := Bw_ HX2.out HB; have hx1_3 := Bw_ HX3.out HB) | (go_at_call 104; refine (impl_EntryAt_func.calls gb2 a2 _ _ (rd_T114 l0_1 a1).f3 _ ((blk_cell BK2.out 0).trans rfl) (Kd.C_below HRE.out (Hf_ HB)) HLE.out).mono ?_; rintro e w12 ⟨rfl, hb⟩; replace HB := Hs_ HB hb; clear hb))
    go_ret
    exact ⟨rfl, Hf_ HB⟩
   ·rw [if_neg c6] at H
    exact absurd H (by simp)
  ·rw [if_neg c5] at H
   exact absurd H (by simp)
 ·replace c4 := Bool.eq_false_iff.mpr c4
  subst c4
  rw [if_neg Ff_] at H
  obtain rfl := Option.some.inj H
  clear H
  go_enter Try.func50, Try.ntmps50
  go_wp2_with (first | (refine Bv_ 3 #[.slice A0_0 l0_0.length c0_0, .slice A0_1 l0_1.length c0_1, .slice A0_2 l0_2.length c0_2] 73 ?_; intro gb1 hg w7 BK1 hb; replace HB := Hs_ HB hb; clear hb hg) | (refine Bv_ 5 #[.string a2] 9 ?_; intro gb2 hg w8 BK2 hb; have NB := Bl_ BK1 hg; replace BK1 := Bb_ BK1 hb; replace HB := Hs_ HB hb; clear hb hg; obtain ⟨hcz0, hcz1, hcz2, hfz0, hfz1, hfz2⟩ := Bc3_ BK1) | (go_at_call 103; refine (impl_isMonitor.calls _ _ l0_0 _ _ l0_1 _ _ l0_2 a1 false _ (Sc_ HR0_0 HB) HC0_0.out (Sc_ HR0_1 HB) HC0_1.out (Sc_ HR0_2 HB) HC0_2.out A3.out).mono ?_; rintro e w12 ⟨rfl, hb⟩; replace HB := Hs_ HB hb; clear hb))
  go_ret
  exact ⟨rfl, Hf_ HB⟩

/-! ### laws_FnExactEntryAt: function 10 -/
def laws_FnExactEntryAt.f (k : Nat) (l0_0 : List (S148)) (l0_1 : List (S152)) (l0_2 : List (S154)) (a1 : Int) (a2 : ByteArray) : Option (Bool) := if (a2.size : Int) > 1048576 then (some true) else ((laws_szProgram.f k l0_0 l0_1 l0_2 1048576).bind fun t269 => (if t269 < 0 then (some true) else ((laws_toProgram.f k l0_0 l0_1 l0_2).bind fun bt270 => ((spec_EntryAt.f k bt270.1 bt270.2.1 bt270.2.2 a1 a2).bind fun t279 => ((laws_toProgram.f k l0_0 l0_1 l0_2).bind fun bt280 => ((impl_EntryAt.f bt280.1 bt280.2.1 bt280.2.2 a1 a2).bind fun t290 => (if t290 = t279 then ((laws_toProgram.f k l0_0 l0_1 l0_2).bind fun bt291 => ((laws_eqProgram.f k bt280.1 bt280.2.1 bt280.2.2 bt291.1 bt291.2.1 bt291.2.2).bind fun t300 => (if t300 = true then (some true) else (some false)))) else (some false))))))))
theorem laws_FnExactEntryAt.calls (k : Nat) (A0_0 : Option Addr) (c0_0 : Nat) (l0_0 : List (S148)) (A0_1 : Option Addr) (c0_1 : Nat) (l0_1 : List (S152)) (A0_2 : Option Addr) (c0_2 : Nat) (l0_2 : List (S154)) (a1 : Int) (a2 : ByteArray) (r : Bool) (w : World) (hr0_0 : Kd.C k148 w A0_0 l0_0.length l0_0) (hc0_0 : l0_0.length ≤ c0_0) (hr0_1 : Kd.C k152 w A0_1 l0_1.length l0_1) (hc0_1 : l0_1.length ≤ c0_1) (hr0_2 : Kd.C k154 w A0_2 l0_2.length l0_2) (hc0_2 : l0_2.length ≤ c0_2) (hlaw_ : Aside0 (r = true)) (h : laws_FnExactEntryAt.f k l0_0 l0_1 l0_2 a1 a2 = some r) :
  Calls Try.prog 10 #[.agg #[.slice A0_0 l0_0.length c0_0, .slice A0_1 l0_1.length c0_1, .slice A0_2 l0_2.length c0_2], .int .i64 a1, .string a2] w fun e w' => e = .returned (.bool r) ∧ Below w.heap.size w w' := by
 have hu66 := Try.underlying66
 have hu73 := Try.underlying73
 have HR0_0 := Aside0.mk hr0_0
 have HC0_0 := Aside0.mk hc0_0
 clear hr0_0 hc0_0
 have HR0_1 := Aside0.mk hr0_1
 have HC0_1 := Aside0.mk hc0_1
 clear hr0_1 hc0_1
 have HR0_2 := Aside0.mk hr0_2
 have HC0_2 := Aside0.mk hc0_2
 clear hr0_2 hc0_2
 have HB := Aside0.mk (Below.refl w.heap.size w)
 have H : (if (a2.size : Int) > 1048576 then (some true) else ((laws_szProgram.f k l0_0 l0_1 l0_2 1048576).bind fun t269 => (if t269 < 0 then (some true) else ((laws_toProgram.f k l0_0 l0_1 l0_2).bind fun bt270 => ((spec_EntryAt.f k bt270.1 bt270.2.1 bt270.2.2 a1 a2).bind fun t279 => ((laws_toProgram.f k l0_0 l0_1 l0_2).bind fun bt280 => ((impl_EntryAt.f bt280.1 bt280.2.1 bt280.2.2 a1 a2).bind fun t290 => (if t290 = t279 then ((laws_toProgram.f k l0_0 l0_1 l0_2).bind fun bt291 => ((laws_eqProgram.f k bt280.1 bt280.2.1 bt280.2.2 bt291.1 bt291.2.1 bt291.2.2).bind fun t300 => (if t300 = true then (some true) else (some false)))) else (some false))))))))) = some r := h
 clear h
 by_cases c4 : (a2.size : Int) > 1048576
 ·rw [if_pos c4] at H
  have c4b0 : decide (1048576 < (a2.size : Int)) = true := decide_eq_true c4
  have c4b1 : decide (1048576 < a2.size) = true := decide_eq_true (by omega)
  clear c4
  obtain rfl := Option.some.inj H
  go_enter Try.func10, Try.ntmps10
  go_wp2_with (first | (refine Bv_ 3 #[.slice A0_0 l0_0.length c0_0, .slice A0_1 l0_1.length c0_1, .slice A0_2 l0_2.length c0_2] 66 ?_; intro gb268 hg w5 BK268 hb; have GW268 := Hg_ HB hg; replace HB := Hs_ HB hb; clear hb hg))
  go_ret
  exact ⟨Re_, Hf_ HB⟩
 ·rw [if_neg c4] at H
  have c4b0 : decide (1048576 < (a2.size : Int)) = false := decide_eq_false c4
  have c4b1 : decide (1048576 < a2.size) = false := decide_eq_false (by omega)
  clear c4
  obtain ⟨t269, A6, H⟩ := Bo_ H
  by_cases c7 : t269 < 0
  ·rw [if_pos c7] at H
   have c7b0 := decide_eq_true c7
   clear c7
   obtain rfl := Option.some.inj H
   go_enter Try.func10, Try.ntmps10
   go_wp2_with (first | (refine Bv_ 3 #[.slice A0_0 l0_0.length c0_0, .slice A0_1 l0_1.length c0_1, .slice A0_2 l0_2.length c0_2] 66 ?_; intro gb268 hg w8 BK268 hb; have GW268 := Hg_ HB hg; replace HB := Hs_ HB hb; clear hb hg; obtain ⟨hcz9_0, hcz9_1, hcz9_2, hfz9_0, hfz9_1, hfz9_2⟩ := Bc3_ BK268) | (refine Gl_ (some 16) Try.func44 ((laws_szProgram.calls k _ _ l0_0 _ _ l0_1 _ _ l0_2 1048576 t269 _ (Sc_ HR0_0 HB) HC0_0.out (Sc_ HR0_1 HB) HC0_1.out (Sc_ HR0_2 HB) HC0_2.out A6.out).mono ?_); rintro e w10 ⟨rfl, hb⟩; refine ⟨_, rfl, ?_⟩; replace BK268 := Bb_ BK268 hb; replace HB := Hs_ HB hb; clear hb))
   go_ret
   exact ⟨Re_, Hf_ HB⟩
  ·rw [if_neg c7] at H
   have c7b0 := decide_eq_false c7
   clear c7
   obtain ⟨⟨t270, t273, t276⟩, A11, H⟩ := Bo_ H
   try dsimp only at H
   obtain ⟨t279, A12, H⟩ := Bo_ H
   obtain ⟨⟨t280, t283, t286⟩, A13, H⟩ := Bo_ H
   try dsimp only at H
   obtain ⟨t290, A14, H⟩ := Bo_ H
   by_cases c15 : t290 = t279
   ·rw [if_pos c15] at H
    have c15b0 := beq_iff_eq.mpr c15
    have c15b1 := bne_eq_false_iff_eq.mpr c15
    clear c15
    obtain ⟨⟨t291, t294, t297⟩, A16, H⟩ := Bo_ H
    try dsimp only at H
    obtain ⟨t300, A17, H⟩ := Bo_ H
    by_cases c18 : t300 = true
    ·subst c18
     rw [if_pos rfl] at H
     obtain rfl := Option.some.inj H
     go_enter Try.func10, Try.ntmps10
     try go_wp2_with (first | (refine Bv_ 3 #[.slice A0_0 l0_0.length c0_0, .slice A0_1 l0_1.length c0_1, .slice A0_2 l0_2.length c0_2] 66 ?_; intro gb268 hg w19 BK268 hb; have GW268 := Hg_ HB hg; replace HB := Hs_ HB hb; clear hb hg; obtain ⟨hcz20_0, hcz20_1, hcz20_2, hfz20_0, hfz20_1, hfz20_2⟩ := Bc3_ BK268) | (refine Gl_ (some 16) Try.func44 ((laws_szProgram.calls k _ _ l0_0 _ _ l0_1 _ _ l0_2 1048576 t269 _ (Sc_ HR0_0 HB) HC0_0.out (Sc_ HR0_1 HB) HC0_1.out (Sc_ HR0_2 HB) HC0_2.out A6.out).mono ?_); rintro e w21 ⟨rfl, hb⟩; refine ⟨_, rfl, ?_⟩; replace BK268 := Bb_ BK268 hb; replace HB := Hs_ HB hb; clear hb; obtain ⟨hcz22_0, hcz22_1, hcz22_2, hfz22_0, hfz22_1, hfz22_2⟩ := Bc3_ BK268) | (refine Gl_ (some 20) Try.func46 ((laws_toProgram.calls k _ _ l0_0 _ _ l0_1 _ _ l0_2 t270 t273 t276 _ (Sc_ HR0_0 HB) HC0_0.out (Sc_ HR0_1 HB) HC0_1.out (Sc_ HR0_2 HB) HC0_2.out A11.out).mono ?_); rintro e w23 ⟨v271, v274, v277, rfl, ho0, ho1, ho2, hb⟩; refine ⟨_, rfl, ?_⟩; have HO272 := Aside0.mk (Kd.S_lower ho0 (below_size (Hf_ HB))); have HO275 := Aside0.mk (Kd.S_lower ho1 (below_size (Hf_ HB))); have HO278 := Aside0.mk (Kd.S_lower ho2 (below_size (Hf_ HB))); replace BK268 := Bb_ BK268 hb; replace HB := Hs_ HB hb; clear hb; (try clear ho0); (try clear ho1); (try clear ho2); obtain ⟨Ao24, co24, eo24⟩ := Kd.S_slice HO272.out; subst eo24; obtain ⟨Ao25, co25, eo25⟩ := Kd.S_slice HO275.out; subst eo25; obtain ⟨Ao26, co26, eo26⟩ := Kd.S_slice HO278.out; subst eo26) | (refine Gl_ (some 23) Try.func49 ((spec_EntryAt.calls k _ _ t270 _ _ t273 _ _ t276 a1 a2 t279 _ (Cq_ (Kd.S_reads' HO272.out).2.2) ((Kd.S_reads' HO272.out).2.1) (Cq_ (Kd.S_reads' HO275.out).2.2) ((Kd.S_reads' HO275.out).2.1) (Cq_ (Kd.S_reads' HO278.out).2.2) ((Kd.S_reads' HO278.out).2.1) A12.out).mono ?_); rintro e w27 ⟨rfl, hb⟩; refine ⟨_, rfl, ?_⟩; replace HO272 := Sb_ HO272 hb; replace HO275 := Sb_ HO275 hb; replace HO278 := Sb_ HO278 hb; replace BK268 := Bb_ BK268 hb; replace HB := Hs_ HB hb; clear hb; obtain ⟨hcz28_0, hcz28_1, hcz28_2, hfz28_0, hfz28_1, hfz28_2⟩ := Bc3_ BK268) | (refine Gl_ (some 25) Try.func46 ((laws_toProgram.calls k _ _ l0_0 _ _ l0_1 _ _ l0_2 t280 t283 t286 _ (Sc_ HR0_0 HB) HC0_0.out (Sc_ HR0_1 HB) HC0_1.out (Sc_ HR0_2 HB) HC0_2.out A13.out).mono ?_); rintro e w29 ⟨v281, v284, v287, rfl, ho0, ho1, ho2, hb⟩; refine ⟨_, rfl, ?_⟩; have HO282 := Aside0.mk (Kd.S_lower (Kd.S_new' ho0 (Kd.S_lt (by (with_reducible repeat (first | apply Kd.S_alloc | apply Kd.S_drewN | apply Kd.S_drew)); exact HO272.out))) (below_size (Hf_ HB))); have HO285 := Aside0.mk (Kd.S_lower (Kd.S_new' ho1 (Kd.S_lt (by (with_reducible repeat (first | apply Kd.S_alloc | apply Kd.S_drewN | apply Kd.S_drew)); exact HO275.out))) (below_size (Hf_ HB))); have HO288 := Aside0.mk (Kd.S_lower (Kd.S_new' ho2 (Kd.S_lt (by (with_reducible repeat (first | apply Kd.S_alloc | apply Kd.S_drewN | apply Kd.S_drew)); exact HO278.out))) (below_size (Hf_ HB))); replace HO272 := Aside0.mk (Kd.S_elder' (by (with_reducible repeat (first | apply Kd.S_alloc | apply Kd.S_drewN | apply Kd.S_drew)); exact HO272.out) (Kd.S_base ho0) hb); replace HO275 := Aside0.mk (Kd.S_elder' (by (with_reducible repeat (first | apply Kd.S_alloc | apply Kd.S_drewN | apply Kd.S_drew)); exact HO275.out) (Kd.S_base ho1) hb); replace HO278 := Aside0.mk (Kd.S_elder' (by (with_reducible repeat (first | apply Kd.S_alloc | apply Kd.S_drewN | apply Kd.S_drew)); exact HO278.out) (Kd.S_base ho2) hb); replace BK268 := Bb_ BK268 hb; replace HB := Hs_ HB hb; clear hb; (try clear ho0); (try clear ho1); (try clear ho2)) | (refine Bv_ 9 #[.slice none 0 0, .slice none 0 0, .slice none 0 0] 73 ?_; intro gb289 hg w30 BK289 hb; have GW289 := Hg_ HB hg; have NB268_289 := Bl_ BK268 hg; have NB289_268 := Bm_ NB268_289; replace HO272 := Sb_ HO272 hb; replace HO275 := Sb_ HO275 hb; replace HO278 := Sb_ HO278 hb; replace HO282 := Sb_ HO282 hb; replace HO285 := Sb_ HO285 hb; replace HO288 := Sb_ HO288 hb; replace BK268 := Bb_ BK268 hb; replace HB := Hs_ HB hb; clear hb hg; obtain ⟨Ao31, co31, eo31⟩ := Kd.S_slice HO282.out; subst eo31; have hnb32 := NB289_268.out; have hnc32 := NB268_289.out; obtain ⟨hcz33_0, hcz33_1, hcz33_2, hfz33_0, hfz33_1, hfz33_2⟩ := Bc3_ BK289; obtain ⟨Ao34, co34, eo34⟩ := Kd.S_slice HO285.out; subst eo34; obtain ⟨Ao35, co35, eo35⟩ := Kd.S_slice HO288.out; subst eo35) | ((with_reducible refine gate_callee (f := 50) rfl ?_); refine goesL_ (some 29) rfl rfl Try.func50 (by kernel_rfl) rfl #[.agg #[.slice Ao31 t280.length co31, .slice Ao34 t283.length co34, .slice Ao35 t286.length co35], .int .i64 a1, .string a2] rfl Mp_ ?_; (with_reducible refine (impl_EntryAt.calls _ _ t280 _ _ t283 _ _ t286 a1 a2 t290 _ ?side1 ?side2 ?side3 ?side4 ?side5 ?side6 A14.out).mono ?_); (case side1 => refine (Kd.S_reads' (e := 132) (base := w.heap.size) (ok := fun k_ => (True ∧ some k_ ≠ (.slice Ao24 t270.length co24 : Value).ownBlock)) (n := t280.length) (c := co31) ?_).2.2; exact (by (with_reducible repeat (first | apply Kd.S_alloc | apply Kd.S_drewN | apply Kd.S_drew)); exact (Kd.S_mono (Kd.S_far (p := ⟨gb289, 2, none⟩) (Kd.S_far (p := ⟨gb289, 1, none⟩) (Kd.S_far (p := ⟨gb289, 0, none⟩) (Kd.S_types HO282.out BK289.out (by decide)) (fun _ hk => hk.2) (.slice Ao31 t280.length co31)) (fun _ hk => hk.2) (.slice Ao34 t283.length co34)) (fun _ hk => hk.2) (.slice Ao35 t286.length co35)) (fun _ h_ => h_.1)))); (case side2 => exact (Kd.S_reads' HO282.out).2.1); (case side3 => refine (Kd.S_reads' (e := 114) (base := w.heap.size) (ok := fun k_ => (True ∧ some k_ ≠ (.slice Ao25 t273.length co25 : Value).ownBlock)) (n := t283.length) (c := co34) ?_).2.2; exact (by (with_reducible repeat (first | apply Kd.S_alloc | apply Kd.S_drewN | apply Kd.S_drew)); exact (Kd.S_mono (Kd.S_far (p := ⟨gb289, 2, none⟩) (Kd.S_far (p := ⟨gb289, 1, none⟩) (Kd.S_far (p := ⟨gb289, 0, none⟩) (Kd.S_types HO285.out BK289.out (by decide)) (fun _ hk => hk.2) (.slice Ao31 t280.length co31)) (fun _ hk => hk.2) (.slice Ao34 t283.length co34)) (fun _ hk => hk.2) (.slice Ao35 t286.length co35)) (fun _ h_ => h_.1)))); (case side4 => exact (Kd.S_reads' HO285.out).2.1); (case side5 => refine (Kd.S_reads' (e := 130) (base := w.heap.size) (ok := fun k_ => (True ∧ some k_ ≠ (.slice Ao26 t276.length co26 : Value).ownBlock)) (n := t286.length) (c := co35) ?_).2.2; exact (by (with_reducible repeat (first | apply Kd.S_alloc | apply Kd.S_drewN | apply Kd.S_drew)); exact (Kd.S_mono (Kd.S_far (p := ⟨gb289, 2, none⟩) (Kd.S_far (p := ⟨gb289, 1, none⟩) (Kd.S_far (p := ⟨gb289, 0, none⟩) (Kd.S_types HO288.out BK289.out (by decide)) (fun _ hk => hk.2) (.slice Ao31 t280.length co31)) (fun _ hk => hk.2) (.slice Ao34 t283.length co34)) (fun _ hk => hk.2) (.slice Ao35 t286.length co35)) (fun _ h_ => h_.1)))); (case side6 => exact (Kd.S_reads' HO288.out).2.1); rintro e w36 ⟨rfl, hb⟩; refine ⟨_, rfl, ?_⟩; replace HO272 := Aside0.mk (Kd.S_below (by (with_reducible repeat (first | apply Kd.S_alloc | apply Kd.S_drewN | apply Kd.S_drew)); exact (Kd.S_mono (Kd.S_far (p := ⟨gb289, 2, none⟩) (Kd.S_far (p := ⟨gb289, 1, none⟩) (Kd.S_far (p := ⟨gb289, 0, none⟩) (Kd.S_types HO272.out BK289.out (by decide)) (fun _ hk => hk.2) (.slice Ao31 t280.length co31)) (fun _ hk => hk.2) (.slice Ao34 t283.length co34)) (fun _ hk => hk.2) (.slice Ao35 t286.length co35)) (fun _ h_ => h_.1))) hb); replace HO275 := Aside0.mk (Kd.S_below (by (with_reducible repeat (first | apply Kd.S_alloc | apply Kd.S_drewN | apply Kd.S_drew)); exact (Kd.S_mono (Kd.S_far (p := ⟨gb289, 2, none⟩) (Kd.S_far (p := ⟨gb289, 1, none⟩) (Kd.S_far (p := ⟨gb289, 0, none⟩) (Kd.S_types HO275.out BK289.out (by decide)) (fun _ hk => hk.2) (.slice Ao31 t280.length co31)) (fun _ hk => hk.2) (.slice Ao34 t283.length co34)) (fun _ hk => hk.2) (.slice Ao35 t286.length co35)) (fun _ h_ => h_.1))) hb); replace HO278 := Aside0.mk (Kd.S_below (by (with_reducible repeat (first | apply Kd.S_alloc | apply Kd.S_drewN | apply Kd.S_drew)); exact (Kd.S_mono (Kd.S_far (p := ⟨gb289, 2, none⟩) (Kd.S_far (p := ⟨gb289, 1, none⟩) (Kd.S_far (p := ⟨gb289, 0, none⟩) (Kd.S_types HO278.out BK289.out (by decide)) (fun _ hk => hk.2) (.slice Ao31 t280.length co31)) (fun _ hk => hk.2) (.slice Ao34 t283.length co34)) (fun _ hk => hk.2) (.slice Ao35 t286.length co35)) (fun _ h_ => h_.1))) hb); replace HO282 := Aside0.mk (Kd.S_below (by (with_reducible repeat (first | apply Kd.S_alloc | apply Kd.S_drewN | apply Kd.S_drew)); exact (Kd.S_mono (Kd.S_far (p := ⟨gb289, 2, none⟩) (Kd.S_far (p := ⟨gb289, 1, none⟩) (Kd.S_far (p := ⟨gb289, 0, none⟩) (Kd.S_types HO282.out BK289.out (by decide)) (fun _ hk => hk.2) (.slice Ao31 t280.length co31)) (fun _ hk => hk.2) (.slice Ao34 t283.length co34)) (fun _ hk => hk.2) (.slice Ao35 t286.length co35)) (fun _ h_ => h_.1))) hb); replace HO285 := Aside0.mk (Kd.S_below (by (with_reducible repeat (first | apply Kd.S_alloc | apply Kd.S_drewN | apply Kd.S_drew)); exact (Kd.S_mono (Kd.S_far (p := ⟨gb289, 2, none⟩) (Kd.S_far (p := ⟨gb289, 1, none⟩) (Kd.S_far (p := ⟨gb289, 0, none⟩) (Kd.S_types HO285.out BK289.out (by decide)) (fun _ hk => hk.2) (.slice Ao31 t280.length co31)) (fun _ hk => hk.2) (.slice Ao34 t283.length co34)) (fun _ hk => hk.2) (.slice Ao35 t286.length co35)) (fun _ h_ => h_.1))) hb); replace HO288 := Aside0.mk (Kd.S_below (by (with_reducible repeat (first | apply Kd.S_alloc | apply Kd.S_drewN | apply Kd.S_drew)); exact (Kd.S_mono (Kd.S_far (p := ⟨gb289, 2, none⟩) (Kd.S_far (p := ⟨gb289, 1, none⟩) (Kd.S_far (p := ⟨gb289, 0, none⟩) (Kd.S_types HO288.out BK289.out (by decide)) (fun _ hk => hk.2) (.slice Ao31 t280.length co31)) (fun _ hk => hk.2) (.slice Ao34 t283.length co34)) (fun _ hk => hk.2) (.slice Ao35 t286.length co35)) (fun _ h_ => h_.1))) hb); replace BK268 := Aside0.mk (blk_below (g := gb268) (o := .cells #[.slice A0_0 l0_0.length c0_0, .slice A0_1 l0_1.length c0_1, .slice A0_2 l0_2.length c0_2] 66 (0, 0)) (by (with_reducible repeat (first | refine blk_drewN ?_ _ | refine blk_drew ?_ | refine blk_alloc ?_ _)); refine blk_far ?_ NB268_289.out _; (with_reducible repeat (first | refine blk_drewN ?_ _ | refine blk_drew ?_ | refine blk_alloc ?_ _)); refine blk_far ?_ NB268_289.out _; (with_reducible repeat (first | refine blk_drewN ?_ _ | refine blk_drew ?_ | refine blk_alloc ?_ _)); refine blk_far ?_ NB268_289.out _; (with_reducible repeat (first | refine blk_drewN ?_ _ | refine blk_drew ?_ | refine blk_alloc ?_ _)); exact BK268.out) hb); replace BK289 := Aside0.mk (blk_below (g := gb289) (o := .cells #[.slice Ao31 t280.length co31, .slice Ao34 t283.length co34, .slice Ao35 t286.length co35] 73 (0, 0)) (by (with_reducible repeat (first | refine blk_drewN ?_ _ | refine blk_drew ?_ | refine blk_alloc ?_ _)); refine blk_put (cs := #[.slice Ao31 t280.length co31, .slice Ao34 t283.length co34, .slice none 0 0]) ?_ 2 _ rfl; (with_reducible repeat (first | refine blk_drewN ?_ _ | refine blk_drew ?_ | refine blk_alloc ?_ _)); refine blk_put (cs := #[.slice Ao31 t280.length co31, .slice none 0 0, .slice none 0 0]) ?_ 1 _ rfl; (with_reducible repeat (first | refine blk_drewN ?_ _ | refine blk_drew ?_ | refine blk_alloc ?_ _)); refine blk_put (cs := #[.slice none 0 0, .slice none 0 0, .slice none 0 0]) ?_ 0 _ rfl; (with_reducible repeat (first | refine blk_drewN ?_ _ | refine blk_drew ?_ | refine blk_alloc ?_ _)); exact BK289.out) hb); replace HB := Hs_ HB hb; clear hb))
     replace HO272 := Aside0.mk (Kd.S_drew HO272.out); replace HO275 := Aside0.mk (Kd.S_drew HO275.out); replace HO278 := Aside0.mk (Kd.S_drew HO278.out); replace HO282 := Aside0.mk (Kd.S_drew HO282.out); replace HO285 := Aside0.mk (Kd.S_drew HO285.out); replace HO288 := Aside0.mk (Kd.S_drew HO288.out); replace BK268 := Aside0.mk (blk_drew BK268.out); replace BK289 := Aside0.mk (blk_drew BK289.out); replace HB := Aside0.mk (below_drew1 HB.out)
     refine start_ (n := 5) (S := fun w' => w'.cell? ⟨gb289, 0, none⟩ = some (.slice Ao31 t280.length co31) ∧ w'.cell? ⟨gb289, 1, none⟩ = some (.slice Ao34 t283.length co34) ∧ w'.cell? ⟨gb289, 2, none⟩ = some (.slice Ao35 t286.length co35) ∧ w'.cell? ⟨gb268, 0, none⟩ = some (.slice A0_0 l0_0.length c0_0) ∧ w'.cell? ⟨gb268, 1, none⟩ = some (.slice A0_1 l0_1.length c0_1) ∧ w'.cell? ⟨gb268, 2, none⟩ = some (.slice A0_2 l0_2.length c0_2)) (ds := []) #[false, false, false, false, false] (by kernel_rfl) rfl rfl ⟨(blk_cell BK289.out 0).trans rfl, (blk_cell BK289.out 1).trans rfl, (blk_cell BK289.out 2).trans rfl, (blk_cell BK268.out 0).trans rfl, (blk_cell BK268.out 1).trans rfl, (blk_cell BK268.out 2).trans rfl⟩ (fun hHeld => ?_)
     generalize w36.drew = w37 at HO272 HO275 HO278 HO282 HO285 HO288 BK268 BK289 HB hHeld ⊢
     refine take_ (i := 0) (N := some 33) (v := ?_) (a' := ?_) #[true, false, false, false, false] rfl rfl (by kernel_rfl) (fun _ _ _ h => h) (Or.inl ⟨by rfl, ?_⟩) hHeld ?_ ?_
     rotate_left
     ·rintro w' ⟨s0, s1, s2, s3, s4, s5⟩
      go_simp
      with_reducible rfl
     rotate_left
     ·simp only [Act.put, List.setIfInBounds_toArray, List.set_cons_zero, List.set_cons_succ, i64_w, i32_w]
      rfl
     refine take_ (i := 1) (N := some 34) (v := ?_) (a' := ?_) #[true, true, false, false, false] rfl rfl (by kernel_rfl) (fun _ _ _ h => h) (Or.inl ⟨by rfl, ?_⟩) hHeld ?_ ?_
     rotate_left
     ·rintro w' ⟨s0, s1, s2, s3, s4, s5⟩
      go_simp
      with_reducible rfl
     rotate_left
     ·simp only [Act.put, List.setIfInBounds_toArray, List.set_cons_zero, List.set_cons_succ, i64_w, i32_w]
      rfl
     refine one_ (i := 2) (N := some 35) #[true, true, true, false, false] rfl rfl (by kernel_rfl) (by decide) (fun K hK => ?_)
     refine Gs_ Try.func46 ((laws_toProgram.calls k _ _ l0_0 _ _ l0_1 _ _ l0_2 t291 t294 t297 _ (Sc_ HR0_0 HB) HC0_0.out (Sc_ HR0_1 HB) HC0_1.out (Sc_ HR0_2 HB) HC0_2.out A16.out).mono ?_)
     rintro e w38 ⟨v292, v295, v298, rfl, ho0, ho1, ho2, hb⟩
     refine ⟨_, rfl, ?_⟩
     have HO293 := Aside0.mk (Kd.S_lower (Kd.S_new' (Kd.S_new' ho0 (Kd.S_lt (by (with_reducible repeat (first | apply Kd.S_alloc | apply Kd.S_drewN | apply Kd.S_drew)); exact HO272.out))) (Kd.S_lt (by (with_reducible repeat (first | apply Kd.S_alloc | apply Kd.S_drewN | apply Kd.S_drew)); exact HO282.out))) (below_size (Hf_ HB))); have HO296 := Aside0.mk (Kd.S_lower (Kd.S_new' (Kd.S_new' ho1 (Kd.S_lt (by (with_reducible repeat (first | apply Kd.S_alloc | apply Kd.S_drewN | apply Kd.S_drew)); exact HO275.out))) (Kd.S_lt (by (with_reducible repeat (first | apply Kd.S_alloc | apply Kd.S_drewN | apply Kd.S_drew)); exact HO285.out))) (below_size (Hf_ HB))); have HO299 := Aside0.mk (Kd.S_lower (Kd.S_new' (Kd.S_new' ho2 (Kd.S_lt (by (with_reducible repeat (first | apply Kd.S_alloc | apply Kd.S_drewN | apply Kd.S_drew)); exact HO278.out))) (Kd.S_lt (by (with_reducible repeat (first | apply Kd.S_alloc | apply Kd.S_drewN | apply Kd.S_drew)); exact HO288.out))) (below_size (Hf_ HB))); replace HO272 := Aside0.mk (Kd.S_elder' (by (with_reducible repeat (first | apply Kd.S_alloc | apply Kd.S_drewN | apply Kd.S_drew)); exact HO272.out) (Kd.S_base ho0) hb); replace HO275 := Aside0.mk (Kd.S_elder' (by (with_reducible repeat (first | apply Kd.S_alloc | apply Kd.S_drewN | apply Kd.S_drew)); exact HO275.out) (Kd.S_base ho1) hb); replace HO278 := Aside0.mk (Kd.S_elder' (by (with_reducible repeat (first | apply Kd.S_alloc | apply Kd.S_drewN | apply Kd.S_drew)); exact HO278.out) (Kd.S_base ho2) hb); replace HO282 := Aside0.mk (Kd.S_elder' (by (with_reducible repeat (first | apply Kd.S_alloc | apply Kd.S_drewN | apply Kd.S_drew)); exact HO282.out) (Kd.S_base ho0) hb); replace HO285 := Aside0.mk (Kd.S_elder' (by (with_reducible repeat (first | apply Kd.S_alloc | apply Kd.S_drewN | apply Kd.S_drew)); exact HO285.out) (Kd.S_base ho1) hb); replace HO288 := Aside0.mk (Kd.S_elder' (by (with_reducible repeat (first | apply Kd.S_alloc | apply Kd.S_drewN | apply Kd.S_drew)); exact HO288.out) (Kd.S_base ho2) hb); replace BK268 := Bb_ BK268 hb; replace BK289 := Bb_ BK289 hb; replace HB := Hs_ HB hb
     clear hb
     (try clear ho0)
     (try clear ho1)
     (try clear ho2)
     obtain ⟨Ao39, co39, eo39⟩ := Kd.S_slice HO293.out
     (first | subst eo39 | (injection eo39 with f1_ f2_ f3_; have f4_ := f1_.symm; have f5_ := f3_.symm; clear f1_ f2_ f3_; subst f4_; subst f5_))
     obtain ⟨Ao40, co40, eo40⟩ := Kd.S_slice HO296.out
     (first | subst eo40 | (injection eo40 with f1_ f2_ f3_; have f4_ := f1_.symm; have f5_ := f3_.symm; clear f1_ f2_ f3_; subst f4_; subst f5_))
     obtain ⟨Ao41, co41, eo41⟩ := Kd.S_slice HO299.out
     (first | subst eo41 | (injection eo41 with f1_ f2_ f3_; have f4_ := f1_.symm; have f5_ := f3_.symm; clear f1_ f2_ f3_; subst f4_; subst f5_))
     refine hK.out _ _ ⟨(blk_cell BK289.out 0).trans rfl, (blk_cell BK289.out 1).trans rfl, (blk_cell BK289.out 2).trans rfl, (blk_cell BK268.out 0).trans rfl, (blk_cell BK268.out 1).trans rfl, (blk_cell BK268.out 2).trans rfl⟩ (fun hHeld => ?_)
     clear hK K
     refine No_ (some 35) ?_
     refine one_ (i := 3) (N := some 36) #[true, true, true, true, false] rfl rfl (by kernel_rfl) (by decide) (fun K hK => ?_)
     refine Gs_ Try.func48 ((laws_eqProgram.calls k _ _ t280 _ _ t283 _ _ t286 _ _ t291 _ _ t294 _ _ t297 true _ (Cq_ (Kd.S_reads' HO282.out).2.2) ((Kd.S_reads' HO282.out).2.1) (Cq_ (Kd.S_reads' HO285.out).2.2) ((Kd.S_reads' HO285.out).2.1) (Cq_ (Kd.S_reads' HO288.out).2.2) ((Kd.S_reads' HO288.out).2.1) (Cq_ (Kd.S_reads' HO293.out).2.2) ((Kd.S_reads' HO293.out).2.1) (Cq_ (Kd.S_reads' HO296.out).2.2) ((Kd.S_reads' HO296.out).2.1) (Cq_ (Kd.S_reads' HO299.out).2.2) ((Kd.S_reads' HO299.out).2.1) A17.out).mono ?_)
     rintro e w42 ⟨rfl, hb⟩
     refine ⟨_, rfl, ?_⟩
     replace HO272 := Sb_ HO272 hb; replace HO275 := Sb_ HO275 hb; replace HO278 := Sb_ HO278 hb; replace HO282 := Sb_ HO282 hb; replace HO285 := Sb_ HO285 hb; replace HO288 := Sb_ HO288 hb; replace HO293 := Sb_ HO293 hb; replace HO296 := Sb_ HO296 hb; replace HO299 := Sb_ HO299 hb; replace BK268 := Bb_ BK268 hb; replace BK289 := Bb_ BK289 hb; replace HB := Hs_ HB hb
     clear hb
     refine hK.out _ _ ⟨(blk_cell BK289.out 0).trans rfl, (blk_cell BK289.out 1).trans rfl, (blk_cell BK289.out 2).trans rfl, (blk_cell BK268.out 0).trans rfl, (blk_cell BK268.out 1).trans rfl, (blk_cell BK268.out 2).trans rfl⟩ (fun hHeld => ?_)
     clear hK K
     refine No_ (some 36) ?_
     refine pure_ (i := 4) (N := some 37) (v := ?_) (a' := ?_) #[true, true, true, true, true] rfl rfl (by kernel_rfl) (fun _ _ _ h => h) (Or.inl ⟨by rfl, ?_⟩) ?_ ?_
     rotate_left
     ·intro w'
      go_simp
      with_reducible rfl
     rotate_left
     ·simp only [Act.put, List.setIfInBounds_toArray, List.set_cons_zero, List.set_cons_succ, i64_w, i32_w]
      rfl
     refine done_ (by kernel_rfl) ?_
     try go_wp2
     go_ret
     exact ⟨Re_, Hf_ HB⟩
    ·replace c18 := Bool.eq_false_iff.mpr c18
     subst c18
     rw [if_neg Ff_] at H
     exact absurd (Option.some.inj H) (by rw [hlaw_.out]; decide)
   ·rw [if_neg c15] at H
    have c15b0 := beq_eq_false_iff_ne.mpr c15
    have c15b1 := bne_iff_ne.mpr c15
    exact absurd (Option.some.inj H) (by rw [hlaw_.out]; decide)

end Go.Proofs.Ytegeahiflkjhmaa.PFnExactEntryAt
