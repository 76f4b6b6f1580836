/- What is calculated of drawn values is what the reference says, and quotient and rest make the value again: the law holds at every draw. No condition. -/
import Derived.Test.YtfgobagibkbocaaPFnValuesx4
set_option linter.unusedVariables false
set_option linter.unusedSimpArgs false
namespace Go.Proofs.Ytfgobagibkbocaa.Pure
open Go.RowKit Go.Proofs.Ytfgobagibkbocaa.PFnValues Go.Proofs.YtfgobagibkbocaaW.PrintWords Go.Proofs.YtfgobagibkbocaaW.PrintLast Go.Proofs.YtfgobagibkbocaaW.PrintMore

theorem w64 {x : Int} (h0 : -9223372036854775808 ≤ x) (h1 : x ≤ 9223372036854775807) : wrap64 x = x := by
  unfold wrap64
  omega
theorem wf_i64 {x : Int} (h : (Lit.int .i64 x).wf = true) : -9223372036854775808 ≤ x ∧ x ≤ 9223372036854775807 := by
  simp [Lit.wf, IntKind.min, IntKind.max, IntKind.signed, IntKind.bits] at h
  omega

instance lawBA : LawfulBEq ByteArray where
  eq_of_beq {a b} h := by
    cases a
    cases b
    congr 1
    exact eq_of_beq (α := Array UInt8) h
  rfl {a} := by
    cases a
    exact BEq.rfl (α := Array UInt8)

/-! Rounds -/
theorem ev_step {α : Type} {g : Nat → Option α} {r : α} (h : Ev (fun k => g (k + 1)) r) : Ev g r := Ev.step (fun _ => rfl) h
theorem ev_ret {α : Type} (r : α) : Ev (fun _ => some r) r := ⟨0, fun _ _ => rfl⟩
theorem ev_pos {α : Type} {c : Prop} [Decidable c] {g f : Nat → Option α} {r : α} (h : c) (k : Ev g r) : Ev (fun n => if c then g n else f n) r :=
  Ev.congr (fun _ => if_pos h) k
theorem ev_neg {α : Type} {c : Prop} [Decidable c] {g f : Nat → Option α} {r : α} (h : ¬ c) (k : Ev f r) : Ev (fun n => if c then g n else f n) r :=
  Ev.congr (fun _ => if_neg h) k
theorem ev_bindc {α β : Type} {x : Option α} {f : Nat → α → Option β} {a : α} {r : β} (h : x = some a) (k : Ev (fun n => f n a) r) : Ev (fun n => x.bind (f n)) r := by
  subst h
  exact k
theorem ev_rpos {α : Type} {c : Prop} [Decidable c] {g : Nat → Option α} {a b : α} (h : c) (k : Ev g a) : Ev g (if c then a else b) := by
  rw [if_pos h]
  exact k
theorem ev_rneg {α : Type} {c : Prop} [Decidable c] {g : Nat → Option α} {a b : α} (h : ¬ c) (k : Ev g b) : Ev g (if c then a else b) := by
  rw [if_neg h]
  exact k
theorem ev_eq {α : Type} {g : Nat → Option α} {r r' : α} (h : r = r') (k : Ev g r) : Ev g r' := h ▸ k

/-! Lists and texts as lists of numbers -/
def bs (s : ByteArray) : List Int := s.data.toList.map fun c => (c.toNat : Int)
theorem bs_length (s : ByteArray) : (bs s).length = s.size := by
  unfold bs
  rw [List.length_map, Array.length_toList]
  rfl
theorem bs_range {s : ByteArray} {x : Int} (h : x ∈ bs s) : 0 ≤ x ∧ x < 256 := by
  unfold bs at h
  obtain ⟨c, _, rfl⟩ := List.mem_map.1 h
  have := c.toNat_lt
  omega
theorem bs_inj {a b : ByteArray} (h : bs a = bs b) : a = b := by
  have h2 : a.data.toList = b.data.toList := by
    have h3 := congrArg (List.map fun n : Int => UInt8.ofNat n.toNat) h
    unfold bs at h3
    rw [List.map_map, List.map_map] at h3
    have e : ∀ l : List UInt8, l.map ((fun n : Int => UInt8.ofNat n.toNat) ∘ fun c => (c.toNat : Int)) = l := by
      intro l
      induction l with
      | nil => rfl
      | cons c l ih =>
        rw [List.map_cons, ih]
        simp
    rwa [e, e] at h3
  cases a
  cases b
  congr 1
  exact Array.toList_inj.1 h2
theorem toList_eq_iff {a b : ByteArray} : a.toList = b.toList ↔ a = b := by
  constructor
  · intro h
    rw [ByteArray.toList_eq, ByteArray.toList_eq] at h
    cases a
    cases b
    congr 1
    exact Array.toList_inj.1 h
  · rintro rfl
    rfl
theorem drop_rd {α : Type} {d : α} {l : List α} {i : Int} (h0 : 0 ≤ i) (h1 : i < l.length) : l.drop i.toNat = rdOf d l i :: l.drop (i + 1).toNat := by
  have h2 : i.toNat < l.length := by omega
  rw [List.drop_eq_getElem_cons h2]
  unfold rdOf
  rw [List.getD_eq_getElem?_getD, List.getElem?_eq_getElem h2, show (i + 1).toNat = i.toNat + 1 by omega]
  rfl
theorem drop_end {α : Type} {l : List α} {i : Int} (h0 : 0 ≤ i) (h1 : ¬ i < l.length) : l.drop i.toNat = [] := List.drop_eq_nil_of_le (by omega)
theorem bs_rd {s : ByteArray} {i : Int} (h0 : 0 ≤ i) (h1 : i < s.size) : rdOf 0 (bs s) i = bt s i := by
  have h2 : i.toNat < s.size := by omega
  have h3 : i.toNat < s.data.toList.length := by
    rw [Array.length_toList]
    exact h2
  unfold rdOf bs bt
  rw [List.getD_eq_getElem?_getD, List.getElem?_map, List.getElem?_eq_getElem h3, dif_pos h2]
  rfl
theorem bs_drop {s : ByteArray} {i : Int} (h0 : 0 ≤ i) (h1 : i < s.size) : (bs s).drop i.toNat = bt s i :: (bs s).drop (i + 1).toNat := by
  rw [drop_rd (d := 0) h0 (by rw [bs_length]; exact h1), bs_rd h0 h1]
theorem bs_end {s : ByteArray} {i : Int} (h0 : 0 ≤ i) (h1 : ¬ i < s.size) : (bs s).drop i.toNat = [] := drop_end h0 (by rw [bs_length]; exact h1)
theorem strOf_bs (s : ByteArray) : strOfNums (bs s) = s := by
  have e : (bs s).map (fun n => UInt8.ofNat n.toNat) = s.data.toList := by
    unfold bs
    rw [List.map_map]
    conv => rhs; rw [← List.map_id s.data.toList]
    exact List.map_congr_left fun c _ => by simp
  unfold strOfNums
  rw [e]
theorem bs_strOf {l : List Int} (h : ∀ x ∈ l, 0 ≤ x ∧ x < 256) : bs (strOfNums l) = l := by
  unfold bs strOfNums
  rw [List.map_map]
  conv => rhs; rw [← List.map_id l]
  refine List.map_congr_left fun x hx => ?_
  obtain ⟨h0, h1⟩ := h x hx
  simp only [Function.comp_apply, UInt8.toNat_ofNat', id_eq]
  omega
theorem bs_append (a b : ByteArray) : bs (a ++ b) = bs a ++ bs b := by simp [bs]
theorem strOf_append (a b : List Int) : strOfNums (a ++ b) = strOfNums a ++ strOfNums b := by
  cases h : strOfNums a ++ strOfNums b
  rename_i d
  have := congrArg ByteArray.data h
  simp only [ByteArray.data_append] at this
  unfold strOfNums at this ⊢
  simp only [← this]
  simp
theorem ev_id {α : Type} {g : Nat → Option α} {r : α} (h : ∀ k, g k = some r) : Ev g r := ⟨0, fun k _ => h k⟩

def vok (n : Int) : Prop := -1000000 ≤ n ∧ n ≤ 1000000
instance (n : Int) : Decidable (vok n) := inferInstanceAs (Decidable (_ ∧ _))
def bit (b : Bool) : Int := if b then 1 else 0
def rawP (op a b : Int) : Int :=
  if op = 1 then a + b else if op = 2 then a - b else if op = 3 then a * b else if op = 4 then Int.tdiv a b else if op = 5 then Int.tmod a b
  else if op = 6 then bit (decide (a < b)) else if op = 7 then bit (a == b) else if op = 8 then bit (a != 0 && b != 0) else if op = 9 then bit (a != 0 || b != 0) else 0
def calcP (op a b : Int) : Int × Int :=
  if (1 ≤ op ∧ op ≤ 9) ∧ vok a ∧ vok b then (if b = 0 ∧ (op = 4 ∨ op = 5) then (0, 2) else if vok (rawP op a b) then (rawP op a b, 0) else (0, 1)) else (0, 1)
theorem bit_some (b : Bool) : (if b = true then (some 1) else (some 0) : Option Int) = some (bit b) := by cases b <;> rfl
theorem mul_small {a b : Int} (ha : vok a) (hb : vok b) : -1000000000000 ≤ a * b ∧ a * b ≤ 1000000000000 := by
  obtain ⟨a0, a1⟩ := ha
  obtain ⟨b0, b1⟩ := hb
  have h1 : 0 ≤ (1000000 - a) * (1000000 + b) := Int.mul_nonneg (by omega) (by omega)
  have h2 : 0 ≤ (1000000 + a) * (1000000 - b) := Int.mul_nonneg (by omega) (by omega)
  have h3 : 0 ≤ (1000000 - a) * (1000000 - b) := Int.mul_nonneg (by omega) (by omega)
  have h4 : 0 ≤ (1000000 + a) * (1000000 + b) := Int.mul_nonneg (by omega) (by omega)
  rw [Int.sub_mul, Int.mul_add, Int.mul_add] at h1
  rw [Int.add_mul, Int.mul_sub, Int.mul_sub] at h2
  rw [Int.sub_mul, Int.mul_sub, Int.mul_sub] at h3
  rw [Int.add_mul, Int.mul_add, Int.mul_add] at h4
  constructor <;> omega
theorem tdiv_small {a b : Int} (ha : vok a) : -1000000 ≤ Int.tdiv a b ∧ Int.tdiv a b ≤ 1000000 := by
  obtain ⟨a0, a1⟩ := ha
  have h : (Int.tdiv a b).natAbs ≤ a.natAbs := by
    rw [Int.natAbs_tdiv]
    exact Nat.div_le_self _ _
  omega
theorem vok_some_neg : True := trivial

theorem within_some (n lo hi : Int) : impl_within.f n lo hi = some (decide (lo ≤ n ∧ n ≤ hi)) := by
  unfold impl_within.f
  by_cases c : n ≥ lo
  · rw [if_pos c]
    simp [c]
  · rw [if_neg c]
    have c' : ¬ lo ≤ n := c
    simp [c']

theorem impl_ValOk_some (n : Int) : impl_ValOk.f n = some (decide (vok n)) := by
  unfold impl_ValOk.f
  rw [within_some]
  rfl
theorem impl_truth_some (b : Bool) : impl_truth.f b = some (bit b) := bit_some b
theorem impl_Calc_k (op a b : Int) (k : Nat) : impl_Calc.f (k + 2) op a b = some (calcP op a b) := by
  unfold impl_Calc.f calcP
  simp only [within_some, impl_ValOk_some, impl_truth_some, Option.bind_some, decide_eq_true_eq]
  by_cases hop : 1 ≤ op ∧ op ≤ 9
  · rw [if_pos hop]
    by_cases ha : vok a
    · rw [if_pos ha]
      by_cases hb : vok b
      · rw [if_pos ⟨hop, ha, hb⟩]
        have hm := mul_small ha hb
        have hd := tdiv_small (b := b) ha
        have ha2 := ha
        have hb2 := hb
        obtain ⟨a0, a1⟩ := ha2
        obtain ⟨b0, b1⟩ := hb2
        simp only [hb, decide_true, Bool.not_true, impl_Calc.j0, impl_Calc.j1, Bool.false_eq_true, if_false]
        rw [w64 (x := a + b) (by omega) (by omega), w64 (x := a - b) (by omega) (by omega), w64 (x := a * b) (by omega) (by omega), w64 (x := Int.tdiv a b) (by omega) (by omega)]
        simp only [impl_ValOk_some, impl_truth_some, Option.bind_some, decide_eq_true_eq]
        have hcase : op = 1 ∨ op = 2 ∨ op = 3 ∨ op = 4 ∨ op = 5 ∨ op = 6 ∨ op = 7 ∨ op = 8 ∨ op = 9 := by omega
        have hz : ∀ x : Int, x = 0 ∨ (¬ x = 0 ∧ (x != 0) = true ∧ (x == 0) = false) := fun x => by
          by_cases h : x = 0
          · exact Or.inl h
          · exact Or.inr ⟨h, by simpa using h, by simpa using h⟩
        rcases hz b with rfl | ⟨z, z1, z2⟩ <;> rcases hz a with rfl | ⟨y, y1, y2⟩ <;> rcases hcase with rfl | rfl | rfl | rfl | rfl | rfl | rfl | rfl | rfl <;> simp [rawP, *] <;> (repeat' split) <;> simp_all
      · rw [if_neg (fun h => hb h.2.2)]
        simp [hb, impl_Calc.j0]
    · rw [if_neg ha, if_neg (fun h => ha h.2.1)]
      simp [impl_Calc.j0]
  · rw [if_neg hop, if_neg (fun h => hop h.1)]
    simp [impl_Calc.j0]
theorem impl_Calc_ev (op a b : Int) : Ev (fun k => impl_Calc.f k op a b) (calcP op a b) := ⟨2, fun k hk => by
  obtain ⟨m, rfl⟩ : ∃ m, k = m + 2 := ⟨k - 2, by omega⟩
  exact impl_Calc_k op a b m⟩

theorem l01In_some (n lo hi : Int) : spec_l01In.f n lo hi = some (decide (lo ≤ n ∧ n ≤ hi)) := by
  unfold spec_l01In.f
  by_cases c : n ≥ lo
  · rw [if_pos c]
    simp [c]
  · rw [if_neg c]
    have c' : ¬ lo ≤ n := c
    simp [c']

theorem spec_ValOk_some (n : Int) : spec_ValOk.f n = some (decide (vok n)) := by
  unfold spec_ValOk.f
  rw [l01In_some]
  rfl
theorem spec_l03Bit_some (b : Bool) : spec_l03Bit.f b = some (bit b) := bit_some b
theorem spec_Calc_k (op a b : Int) (k : Nat) : spec_Calc.f (k + 2) op a b = some (calcP op a b) := by
  unfold spec_Calc.f calcP
  simp only [l01In_some, spec_ValOk_some, spec_l03Bit_some, Option.bind_some, decide_eq_true_eq]
  by_cases ha : vok a
  · rw [if_pos ha]
    by_cases hb : vok b
    · rw [if_pos hb]
      by_cases hop : 1 ≤ op ∧ op ≤ 9
      · rw [if_pos ⟨hop, ha, hb⟩]
        have hm := mul_small ha hb
        have hd := tdiv_small (b := b) ha
        have ha2 := ha
        have hb2 := hb
        obtain ⟨a0, a1⟩ := ha2
        obtain ⟨b0, b1⟩ := hb2
        simp only [hop, and_self, decide_true, Bool.not_true, spec_Calc.j0, spec_Calc.j1, Bool.false_eq_true, if_false]
        rw [w64 (x := a + b) (by omega) (by omega), w64 (x := a - b) (by omega) (by omega), w64 (x := a * b) (by omega) (by omega), w64 (x := Int.tdiv a b) (by omega) (by omega)]
        simp only [spec_ValOk_some, spec_l03Bit_some, Option.bind_some, decide_eq_true_eq]
        have hcase : op = 1 ∨ op = 2 ∨ op = 3 ∨ op = 4 ∨ op = 5 ∨ op = 6 ∨ op = 7 ∨ op = 8 ∨ op = 9 := by omega
        have hz : ∀ x : Int, x = 0 ∨ (¬ x = 0 ∧ (x != 0) = true ∧ (x == 0) = false) := fun x => by
          by_cases h : x = 0
          · exact Or.inl h
          · exact Or.inr ⟨h, by simpa using h, by simpa using h⟩
        rcases hz b with rfl | ⟨z, z1, z2⟩ <;> rcases hz a with rfl | ⟨y, y1, y2⟩ <;> rcases hcase with rfl | rfl | rfl | rfl | rfl | rfl | rfl | rfl | rfl <;> simp [rawP, *] <;> (repeat' split) <;> simp_all
      · rw [if_neg (fun h => hop h.1)]
        simp [hop, spec_Calc.j0]
    · rw [if_neg hb, if_neg (fun h => hb h.2.2)]
      simp [spec_Calc.j0]
  · rw [if_neg ha, if_neg (fun h => ha h.2.1)]
    simp [spec_Calc.j0]
theorem spec_Calc_ev (op a b : Int) : Ev (fun k => spec_Calc.f k op a b) (calcP op a b) := ⟨2, fun k hk => by
  obtain ⟨m, rfl⟩ : ∃ m, k = m + 2 := ⟨k - 2, by omega⟩
  exact spec_Calc_k op a b m⟩

/-! The cursor that draws: what matters is that it answers, and in which range. -/
theorem and255 (x : Int) : 0 ≤ Go.bits .and .i64 x 255 ∧ Go.bits .and .i64 x 255 ≤ 255 := by
  have h1 : (BitVec.ofInt 64 x &&& BitVec.ofInt 64 255).toNat ≤ 255 := by
    rw [BitVec.toNat_and]
    exact Nat.le_trans Nat.and_le_right (by decide)
  have h2 : Go.bits .and .i64 x 255 = IntKind.i64.wrap (((BitVec.ofInt 64 x &&& BitVec.ofInt 64 255).toNat : Nat) : Int) := rfl
  rw [h2, IntKind.wrap_i64]
  omega
theorem l01New_l0 (b : List Int) (hb : b.length ≤ 140737488351232) (n : Nat) : ∀ (h i : Int), 0 ≤ i → (b.length : Int) - i ≤ n → ∃ h', Ev (fun k => spec_l01New.l0 k b h i) (b, 0, h') := by
  induction n with
  | zero =>
    intro h i h0 hi
    refine ⟨h, ev_step ?_⟩
    simp only [spec_l01New.l0]
    exact ev_neg (by omega) (ev_ret _)
  | succ n ih =>
    intro h i h0 hi
    by_cases c : i < (b.length : Int)
    · by_cases c2 : i < 4000
      · obtain ⟨h', hh⟩ := ih (Go.bits .and .i64 (wrap64 ((wrap64 ((wrap64 (h * 131)) + (wrap64 (rd b i)))) + 7)) 1073741823) (i + 1) (by omega) (by omega)
        refine ⟨h', ev_step ?_⟩
        simp only [spec_l01New.l0]
        refine ev_pos c (ev_pos c2 (ev_pos h0 ?_))
        rw [w64 (x := i + 1) (by omega) (by omega)]
        exact hh
      · refine ⟨h, ev_step ?_⟩
        simp only [spec_l01New.l0]
        exact ev_pos c (ev_neg c2 (ev_ret _))
    · refine ⟨h, ev_step ?_⟩
      simp only [spec_l01New.l0]
      exact ev_neg c (ev_ret _)
theorem l01New_ev (b : List Int) (hb : b.length ≤ 140737488351232) : ∃ h, Ev (fun k => spec_l01New.f k b) (b, 0, h) := by
  unfold spec_l01New.f
  exact l01New_l0 b hb b.length _ 0 (by omega) (by omega)
theorem l01Byte_some (b : List Int) (hb : b.length ≤ 140737488351232) (i h : Int) (h0 : 0 ≤ i) : ∃ x i' h', spec_l01Byte.f b i h = some (x, i', h') ∧ 0 ≤ x ∧ x ≤ 255 ∧ 0 ≤ i' := by
  unfold spec_l01Byte.f
  by_cases c : i < (b.length : Int)
  · rw [if_pos c, if_pos h0]
    refine ⟨_, _, _, rfl, (and255 _).1, (and255 _).2, ?_⟩
    rw [w64 (by omega) (by omega)]
    omega
  · rw [if_neg c]
    exact ⟨_, _, _, rfl, (and255 _).1, (and255 _).2, h0⟩
theorem l01Below_some (b : List Int) (hb : b.length ≤ 140737488351232) (i h n : Int) (h0 : 0 ≤ i) (hn : 0 < n) (hn2 : n ≤ 4294967296) : ∃ x i' h', spec_l01Below.f b i h n = some (x, i', h') ∧ 0 ≤ x ∧ x < n ∧ 0 ≤ i' := by
  unfold spec_l01Below.f
  rw [if_neg (by omega)]
  by_cases c : n ≤ 256
  · obtain ⟨x, i', h', e, x0, x1, q0⟩ := l01Byte_some b hb i h h0
    rw [if_pos c, e]
    simp only [Option.bind_some]
    rw [if_neg (by omega), Int.tmod_eq_emod_of_nonneg x0]
    exact ⟨_, _, _, rfl, Int.emod_nonneg _ (by omega), Int.emod_lt_of_pos _ hn, q0⟩
  · obtain ⟨x, i1, h1, e1, x0, x1, q1⟩ := l01Byte_some b hb i h h0
    obtain ⟨y, i2, h2, e2, y0, y1, q2⟩ := l01Byte_some b hb i1 h1 q1
    obtain ⟨z, i3, h3, e3, z0, z1, q3⟩ := l01Byte_some b hb i2 h2 q2
    obtain ⟨u, i4, h4, e4, u0, u1, q4⟩ := l01Byte_some b hb i3 h3 q3
    rw [if_neg c, e1]
    simp only [Option.bind_some]
    rw [e2]
    simp only [Option.bind_some]
    rw [e3]
    simp only [Option.bind_some]
    rw [e4]
    simp only [Option.bind_some]
    rw [if_neg (by omega), w64 (x := x * 16777216) (by omega) (by omega), w64 (x := y * 65536) (by omega) (by omega), w64 (x := x * 16777216 + y * 65536) (by omega) (by omega), w64 (x := z * 256) (by omega) (by omega),
      w64 (x := x * 16777216 + y * 65536 + z * 256) (by omega) (by omega), w64 (x := x * 16777216 + y * 65536 + z * 256 + u) (by omega) (by omega), Int.tmod_eq_emod_of_nonneg (by omega)]
    exact ⟨_, _, _, rfl, Int.emod_nonneg _ (by omega), Int.emod_lt_of_pos _ hn, q4⟩

theorem l01PickInt_some (b : List Int) (hb : b.length ≤ 140737488351232) (i h : Int) (l : List Int) (h0 : 0 ≤ i) (hl : 0 < l.length) (hl2 : l.length ≤ 1000) : ∃ x i' h', spec_l01PickInt.f b i h l = some (x, i', h') ∧ 0 ≤ i' := by
  unfold spec_l01PickInt.f
  obtain ⟨x, i', h', e, x0, x1, q⟩ := l01Below_some b hb i h l.length h0 (by omega) (by omega)
  rw [e]
  simp only [Option.bind_some]
  rw [if_pos x0, if_pos x1]
  exact ⟨_, _, _, rfl, q⟩

theorem l03Val_some (b : List Int) (hb : b.length ≤ 140737488351232) (i h : Int) (h0 : 0 ≤ i) : ∃ x i' h', spec_l03Val.f b i h = some (x, i', h') ∧ 0 ≤ i' := by
  unfold spec_l03Val.f
  obtain ⟨x, i', h', e, q⟩ := l01PickInt_some b hb i h [0, 1, 2, 3, (-1), 7, 1000, 1000000, (-1000000), 999999, 1000001, (-9223372036854775808), 9223372036854775807] h0 (by simp) (by simp)
  rw [e]
  exact ⟨_, _, _, rfl, q⟩

theorem DrawCalc_ev (b : List Int) (hb : b.length ≤ 140737488351232) : ∃ op x y, Ev (fun k => spec_DrawCalc.f k b) (op, x, y) := by
  unfold spec_DrawCalc.f
  obtain ⟨h, e⟩ := l01New_ev b hb
  obtain ⟨op, i1, h1, e1, q1⟩ := l01PickInt_some b hb 0 h [1, 2, 3, 4, 5, 6, 7, 8, 9, 0, 10, 3, 1] (by omega) (by simp) (by simp)
  obtain ⟨x, i2, h2, e2, q2⟩ := l03Val_some b hb i1 h1 q1
  obtain ⟨y, i3, h3, e3, q3⟩ := l03Val_some b hb i2 h2 q2
  exact ⟨op, x, y, Ev.bind e (ev_bindc e1 (ev_bindc e2 (ev_bindc e3 (ev_ret _))))⟩
theorem DrawNegated_ev (b : List Int) (hb : b.length ≤ 140737488351232) : ∃ x, Ev (fun k => spec_DrawNegated.f k b) x := by
  unfold spec_DrawNegated.f
  obtain ⟨h, e⟩ := l01New_ev b hb
  obtain ⟨x, i2, h2, e2, q2⟩ := l03Val_some b hb 0 h (by omega)
  exact ⟨x, Ev.bind e (ev_bindc e2 (ev_ret _))⟩
theorem DrawDenied_ev (b : List Int) (hb : b.length ≤ 140737488351232) : ∃ x, Ev (fun k => spec_DrawDenied.f k b) x := by
  unfold spec_DrawDenied.f
  obtain ⟨h, e⟩ := l01New_ev b hb
  obtain ⟨x, i2, h2, e2, q2⟩ := l03Val_some b hb 0 h (by omega)
  exact ⟨x, Ev.bind e (ev_bindc e2 (ev_ret _))⟩

theorem calc_ok (op a b : Int) : vok (calcP op a b).1 ∧ ((calcP op a b).2 ≠ 0 → (calcP op a b).1 = 0) := by
  unfold calcP
  split
  · split
    · simp [vok]
    · split
      · rename_i h
        simp [h]
      · simp [vok]
  · simp [vok]
theorem vok_tmod {a b : Int} (ha : vok a) : vok (Int.tmod a b) := by
  obtain ⟨a0, a1⟩ := ha
  have h : (Int.tmod a b).natAbs ≤ a.natAbs := by
    rw [Int.natAbs_tmod]
    exact Nat.mod_le _ _
  unfold vok
  omega
theorem values_j2 (l : List Int) (hl : l.length ≤ 140737488351232) (a : Int) : Ev (fun k => laws_FnValues.j2 k l a) true := by
  refine ev_step ?_
  simp only [laws_FnValues.j2]
  obtain ⟨u, hu⟩ := DrawNegated_ev l hl
  obtain ⟨v, hv⟩ := DrawDenied_ev l hl
  refine Ev.bind hu (Ev.bind hv ?_)
  have n1 : impl_Negated.f u = some (if vok u then (wrap64 (-u), 0) else (0, 1)) := by
    unfold impl_Negated.f
    rw [impl_ValOk_some]
    simp only [Option.bind_some, decide_eq_true_eq]
    split <;> rfl
  have n2 : spec_Negated.f u = some (if vok u then (wrap64 (-u), 0) else (0, 1)) := by
    unfold spec_Negated.f
    rw [spec_ValOk_some]
    simp only [Option.bind_some, decide_eq_true_eq]
    split <;> rfl
  have d1 : ∀ x, impl_Denied.f x = some (bit (x == 0)) := fun x => by
    unfold impl_Denied.f
    rw [impl_truth_some]
    rfl
  have d2 : spec_Denied.f v = some (bit (v == 0)) := by
    unfold spec_Denied.f
    rw [spec_l03Bit_some]
    rfl
  refine ev_bindc n1 (ev_bindc n2 (ev_pos rfl (ev_pos rfl (ev_bindc (d1 v) (ev_bindc d2 (ev_pos rfl (ev_bindc (d1 0) (ev_pos rfl (ev_bindc (impl_ValOk_some a) (ev_bindc (spec_ValOk_some a) (ev_eq (by simp) (ev_ret _))))))))))))
theorem values_j1 (l : List Int) (hl : l.length ≤ 140737488351232) (a b : Int) (t : Bool) (ht : t = true → vok a ∧ vok b ∧ b ≠ 0) : Ev (fun k => laws_FnValues.j1 k l a b t) true := by
  refine ev_step ?_
  simp only [laws_FnValues.j1]
  by_cases c : t = true
  · obtain ⟨ha, hb, hz⟩ := ht c
    have hd := tdiv_small (b := b) ha
    have hr := vok_tmod (b := b) ha
    have e4 : calcP 4 a b = (Int.tdiv a b, 0) := by
      unfold calcP
      rw [if_pos ⟨by omega, ha, hb⟩, if_neg (by omega)]
      have : vok (Int.tdiv a b) := hd
      simp [rawP, this]
    have e5 : calcP 5 a b = (Int.tmod a b, 0) := by
      unfold calcP
      rw [if_pos ⟨by omega, ha, hb⟩, if_neg (by omega)]
      simp [rawP, hr]
    refine ev_pos c (Ev.bind (impl_Calc_ev 4 a b) (Ev.bind (impl_Calc_ev 5 a b) ?_))
    rw [e4, e5]
    have hm := mul_small (a := Int.tdiv a b) (b := b) hd hb
    have hq : Int.tdiv a b * b + Int.tmod a b = a := by rw [Int.mul_comm]; exact Int.mul_tdiv_add_tmod a b
    unfold vok at hr ha
    refine ev_pos rfl (ev_pos rfl (ev_pos ?_ (values_j2 l hl a)))
    rw [w64 (x := Int.tdiv a b * b) (by omega) (by omega), w64 (by omega) (by omega)]
    exact hq
  · exact ev_neg c (values_j2 l hl a)
theorem FnValues : laws_FnValues.Pure := by
  intro l hl hl2 _
  refine Ev.rounds ?_
  unfold laws_FnValues.f
  refine ev_bindc (a := decide ((l.length : Int) > 1048576)) rfl ?_
  by_cases c : (l.length : Int) > 1048576
  · exact ev_pos (by simpa using c) (ev_ret _)
  · refine ev_neg (by simpa using c) ?_
    obtain ⟨op, a, b, hd⟩ := DrawCalc_ev l (by omega)
    refine Ev.bind hd (Ev.bind (impl_Calc_ev op a b) (Ev.bind (spec_Calc_ev op a b) (ev_pos rfl (ev_pos rfl ?_))))
    obtain ⟨h1, h2⟩ := calc_ok op a b
    have j0 : Ev (fun k => laws_FnValues.j0 k l a b (!decide (vok (calcP op a b).1))) true := by
      refine ev_step ?_
      simp only [laws_FnValues.j0]
      refine ev_neg (by simp [h1]) (ev_bindc (impl_ValOk_some a) ?_)
      by_cases ha : vok a
      · refine ev_pos (by simpa using ha) (ev_bindc (impl_ValOk_some b) ?_)
        by_cases hb : vok b
        · exact ev_pos (by simpa using hb) (values_j1 l (by omega) a b _ (fun h => ⟨ha, hb, by simpa using h⟩))
        · exact ev_neg (by simpa using hb) (values_j1 l (by omega) a b _ (fun h => by cases h))
      · exact ev_neg (by simpa using ha) (values_j1 l (by omega) a b _ (fun h => by cases h))
    by_cases f : (calcP op a b).2 = 0
    · exact ev_pos f (ev_bindc (impl_ValOk_some _) j0)
    · exact ev_neg f (ev_pos (h2 f) (ev_bindc (impl_ValOk_some _) j0))

end Go.Proofs.Ytfgobagibkbocaa.Pure
