/- A drawn environment is right, what is put in is got again, and the drawn others answer as the reference says: the law holds at every draw. No condition. -/
import Derived.Test.YtegeahiflkjhmaaPFnEnvsx11
set_option linter.unusedVariables false
set_option linter.unusedSimpArgs false
namespace Go.Proofs.Ytegeahiflkjhmaa.Pure
open Go.RowKit Go.Proofs.Ytegeahiflkjhmaa.PFnEnvs Go.Proofs.YtegeahiflkjhmaaW.PrintWords Go.Proofs.YtegeahiflkjhmaaW.PrintLast Go.Proofs.YtegeahiflkjhmaaW.PrintMore

theorem w64 {x : Int} (h0 : -9223372036854775808 ≤ x) (h1 : x ≤ 9223372036854775807) : wrap64 x = x := by
  unfold wrap64
  omega
theorem wf_i64 {x : Int} (h : (Lit.int .i64 x).wf = true) : -9223372036854775808 ≤ x ∧ x ≤ 9223372036854775807 := by
  simp [Lit.wf, IntKind.min, IntKind.max, IntKind.signed, IntKind.bits] at h
  omega

instance lawBA : LawfulBEq ByteArray where
  eq_of_beq {a b} h := by
    cases a
    cases b
    congr 1
    exact eq_of_beq (α := Array UInt8) h
  rfl {a} := by
    cases a
    exact BEq.rfl (α := Array UInt8)

/-! Rounds -/
theorem ev_step {α : Type} {g : Nat → Option α} {r : α} (h : Ev (fun k => g (k + 1)) r) : Ev g r := Ev.step (fun _ => rfl) h
theorem ev_ret {α : Type} (r : α) : Ev (fun _ => some r) r := ⟨0, fun _ _ => rfl⟩
theorem ev_pos {α : Type} {c : Prop} [Decidable c] {g f : Nat → Option α} {r : α} (h : c) (k : Ev g r) : Ev (fun n => if c then g n else f n) r :=
  Ev.congr (fun _ => if_pos h) k
theorem ev_neg {α : Type} {c : Prop} [Decidable c] {g f : Nat → Option α} {r : α} (h : ¬ c) (k : Ev f r) : Ev (fun n => if c then g n else f n) r :=
  Ev.congr (fun _ => if_neg h) k
theorem ev_bindc {α β : Type} {x : Option α} {f : Nat → α → Option β} {a : α} {r : β} (h : x = some a) (k : Ev (fun n => f n a) r) : Ev (fun n => x.bind (f n)) r := by
  subst h
  exact k
theorem ev_rpos {α : Type} {c : Prop} [Decidable c] {g : Nat → Option α} {a b : α} (h : c) (k : Ev g a) : Ev g (if c then a else b) := by
  rw [if_pos h]
  exact k
theorem ev_rneg {α : Type} {c : Prop} [Decidable c] {g : Nat → Option α} {a b : α} (h : ¬ c) (k : Ev g b) : Ev g (if c then a else b) := by
  rw [if_neg h]
  exact k
theorem ev_eq {α : Type} {g : Nat → Option α} {r r' : α} (h : r = r') (k : Ev g r) : Ev g r' := h ▸ k

/-! Lists and texts as lists of numbers -/
def bs (s : ByteArray) : List Int := s.data.toList.map fun c => (c.toNat : Int)
theorem bs_length (s : ByteArray) : (bs s).length = s.size := by
  unfold bs
  rw [List.length_map, Array.length_toList]
  rfl
theorem bs_range {s : ByteArray} {x : Int} (h : x ∈ bs s) : 0 ≤ x ∧ x < 256 := by
  unfold bs at h
  obtain ⟨c, _, rfl⟩ := List.mem_map.1 h
  have := c.toNat_lt
  omega
theorem bs_inj {a b : ByteArray} (h : bs a = bs b) : a = b := by
  have h2 : a.data.toList = b.data.toList := by
    have h3 := congrArg (List.map fun n : Int => UInt8.ofNat n.toNat) h
    unfold bs at h3
    rw [List.map_map, List.map_map] at h3
    have e : ∀ l : List UInt8, l.map ((fun n : Int => UInt8.ofNat n.toNat) ∘ fun c => (c.toNat : Int)) = l := by
      intro l
      induction l with
      | nil => rfl
      | cons c l ih =>
        rw [List.map_cons, ih]
        simp
    rwa [e, e] at h3
  cases a
  cases b
  congr 1
  exact Array.toList_inj.1 h2
theorem toList_eq_iff {a b : ByteArray} : a.toList = b.toList ↔ a = b := by
  constructor
  · intro h
    rw [ByteArray.toList_eq, ByteArray.toList_eq] at h
    cases a
    cases b
    congr 1
    exact Array.toList_inj.1 h
  · rintro rfl
    rfl
theorem drop_rd {α : Type} {d : α} {l : List α} {i : Int} (h0 : 0 ≤ i) (h1 : i < l.length) : l.drop i.toNat = rdOf d l i :: l.drop (i + 1).toNat := by
  have h2 : i.toNat < l.length := by omega
  rw [List.drop_eq_getElem_cons h2]
  unfold rdOf
  rw [List.getD_eq_getElem?_getD, List.getElem?_eq_getElem h2, show (i + 1).toNat = i.toNat + 1 by omega]
  rfl
theorem drop_end {α : Type} {l : List α} {i : Int} (h0 : 0 ≤ i) (h1 : ¬ i < l.length) : l.drop i.toNat = [] := List.drop_eq_nil_of_le (by omega)
theorem bs_rd {s : ByteArray} {i : Int} (h0 : 0 ≤ i) (h1 : i < s.size) : rdOf 0 (bs s) i = bt s i := by
  have h2 : i.toNat < s.size := by omega
  have h3 : i.toNat < s.data.toList.length := by
    rw [Array.length_toList]
    exact h2
  unfold rdOf bs bt
  rw [List.getD_eq_getElem?_getD, List.getElem?_map, List.getElem?_eq_getElem h3, dif_pos h2]
  rfl
theorem bs_drop {s : ByteArray} {i : Int} (h0 : 0 ≤ i) (h1 : i < s.size) : (bs s).drop i.toNat = bt s i :: (bs s).drop (i + 1).toNat := by
  rw [drop_rd (d := 0) h0 (by rw [bs_length]; exact h1), bs_rd h0 h1]
theorem bs_end {s : ByteArray} {i : Int} (h0 : 0 ≤ i) (h1 : ¬ i < s.size) : (bs s).drop i.toNat = [] := drop_end h0 (by rw [bs_length]; exact h1)
theorem strOf_bs (s : ByteArray) : strOfNums (bs s) = s := by
  have e : (bs s).map (fun n => UInt8.ofNat n.toNat) = s.data.toList := by
    unfold bs
    rw [List.map_map]
    conv => rhs; rw [← List.map_id s.data.toList]
    exact List.map_congr_left fun c _ => by simp
  unfold strOfNums
  rw [e]
theorem bs_strOf {l : List Int} (h : ∀ x ∈ l, 0 ≤ x ∧ x < 256) : bs (strOfNums l) = l := by
  unfold bs strOfNums
  rw [List.map_map]
  conv => rhs; rw [← List.map_id l]
  refine List.map_congr_left fun x hx => ?_
  obtain ⟨h0, h1⟩ := h x hx
  simp only [Function.comp_apply, UInt8.toNat_ofNat', id_eq]
  omega
theorem bs_append (a b : ByteArray) : bs (a ++ b) = bs a ++ bs b := by simp [bs]
theorem strOf_append (a b : List Int) : strOfNums (a ++ b) = strOfNums a ++ strOfNums b := by
  cases h : strOfNums a ++ strOfNums b
  rename_i d
  have := congrArg ByteArray.data h
  simp only [ByteArray.data_append] at this
  unfold strOfNums at this ⊢
  simp only [← this]
  simp
theorem ev_id {α : Type} {g : Nat → Option α} {r : α} (h : ∀ k, g k = some r) : Ev g r := ⟨0, fun k _ => h k⟩

/-! The cursor that draws: what matters is that it answers, and in which range. -/
theorem and255 (x : Int) : 0 ≤ Go.bits .and .i64 x 255 ∧ Go.bits .and .i64 x 255 ≤ 255 := by
  have h1 : (BitVec.ofInt 64 x &&& BitVec.ofInt 64 255).toNat ≤ 255 := by
    rw [BitVec.toNat_and]
    exact Nat.le_trans Nat.and_le_right (by decide)
  have h2 : Go.bits .and .i64 x 255 = IntKind.i64.wrap (((BitVec.ofInt 64 x &&& BitVec.ofInt 64 255).toNat : Nat) : Int) := rfl
  rw [h2, IntKind.wrap_i64]
  omega
theorem l01New_l0 (b : List Int) (hb : b.length ≤ 140737488351232) (n : Nat) : ∀ (h i : Int), 0 ≤ i → (b.length : Int) - i ≤ n → ∃ h', Ev (fun k => spec_l01New.l0 k b h i) (b, 0, h') := by
  induction n with
  | zero =>
    intro h i h0 hi
    refine ⟨h, ev_step ?_⟩
    simp only [spec_l01New.l0]
    exact ev_neg (by omega) (ev_ret _)
  | succ n ih =>
    intro h i h0 hi
    by_cases c : i < (b.length : Int)
    · by_cases c2 : i < 4000
      · obtain ⟨h', hh⟩ := ih (Go.bits .and .i64 (wrap64 ((wrap64 ((wrap64 (h * 131)) + (wrap64 (rd b i)))) + 7)) 1073741823) (i + 1) (by omega) (by omega)
        refine ⟨h', ev_step ?_⟩
        simp only [spec_l01New.l0]
        refine ev_pos c (ev_pos c2 (ev_pos h0 ?_))
        rw [w64 (x := i + 1) (by omega) (by omega)]
        exact hh
      · refine ⟨h, ev_step ?_⟩
        simp only [spec_l01New.l0]
        exact ev_pos c (ev_neg c2 (ev_ret _))
    · refine ⟨h, ev_step ?_⟩
      simp only [spec_l01New.l0]
      exact ev_neg c (ev_ret _)
theorem l01New_ev (b : List Int) (hb : b.length ≤ 140737488351232) : ∃ h, Ev (fun k => spec_l01New.f k b) (b, 0, h) := by
  unfold spec_l01New.f
  exact l01New_l0 b hb b.length _ 0 (by omega) (by omega)
theorem l01Byte_some (b : List Int) (hb : b.length ≤ 140737488351232) (i h : Int) (h0 : 0 ≤ i) : ∃ x i' h', spec_l01Byte.f b i h = some (x, i', h') ∧ 0 ≤ x ∧ x ≤ 255 ∧ 0 ≤ i' := by
  unfold spec_l01Byte.f
  by_cases c : i < (b.length : Int)
  · rw [if_pos c, if_pos h0]
    refine ⟨_, _, _, rfl, (and255 _).1, (and255 _).2, ?_⟩
    rw [w64 (by omega) (by omega)]
    omega
  · rw [if_neg c]
    exact ⟨_, _, _, rfl, (and255 _).1, (and255 _).2, h0⟩
theorem l01Below_some (b : List Int) (hb : b.length ≤ 140737488351232) (i h n : Int) (h0 : 0 ≤ i) (hn : 0 < n) (hn2 : n ≤ 4294967296) : ∃ x i' h', spec_l01Below.f b i h n = some (x, i', h') ∧ 0 ≤ x ∧ x < n ∧ 0 ≤ i' := by
  unfold spec_l01Below.f
  rw [if_neg (by omega)]
  by_cases c : n ≤ 256
  · obtain ⟨x, i', h', e, x0, x1, q0⟩ := l01Byte_some b hb i h h0
    rw [if_pos c, e]
    simp only [Option.bind_some]
    rw [if_neg (by omega), Int.tmod_eq_emod_of_nonneg x0]
    exact ⟨_, _, _, rfl, Int.emod_nonneg _ (by omega), Int.emod_lt_of_pos _ hn, q0⟩
  · obtain ⟨x, i1, h1, e1, x0, x1, q1⟩ := l01Byte_some b hb i h h0
    obtain ⟨y, i2, h2, e2, y0, y1, q2⟩ := l01Byte_some b hb i1 h1 q1
    obtain ⟨z, i3, h3, e3, z0, z1, q3⟩ := l01Byte_some b hb i2 h2 q2
    obtain ⟨u, i4, h4, e4, u0, u1, q4⟩ := l01Byte_some b hb i3 h3 q3
    rw [if_neg c, e1]
    simp only [Option.bind_some]
    rw [e2]
    simp only [Option.bind_some]
    rw [e3]
    simp only [Option.bind_some]
    rw [e4]
    simp only [Option.bind_some]
    rw [if_neg (by omega), w64 (x := x * 16777216) (by omega) (by omega), w64 (x := y * 65536) (by omega) (by omega), w64 (x := x * 16777216 + y * 65536) (by omega) (by omega), w64 (x := z * 256) (by omega) (by omega),
      w64 (x := x * 16777216 + y * 65536 + z * 256) (by omega) (by omega), w64 (x := x * 16777216 + y * 65536 + z * 256 + u) (by omega) (by omega), Int.tmod_eq_emod_of_nonneg (by omega)]
    exact ⟨_, _, _, rfl, Int.emod_nonneg _ (by omega), Int.emod_lt_of_pos _ hn, q4⟩

theorem DrawPlaces_l0 (b : List Int) (hb : b.length ≤ 140737488351232) (n : Nat) : ∀ (o : List Int) (j i h : Int), 0 ≤ i → 0 ≤ j → 12 - j = n → (o.length : Int) = j → (∀ x ∈ o, 0 ≤ x ∧ x < 10000) →
    ∃ t, Ev (fun k => spec_DrawPlaces.l0 k o j b i h) t ∧ t.length = 12 ∧ ∀ x ∈ t, 0 ≤ x ∧ x < 10000 := by
  induction n with
  | zero =>
    intro o j i h h0 hj hn ho hr
    refine ⟨o, ev_step ?_, by omega, hr⟩
    simp only [spec_DrawPlaces.l0]
    exact ev_neg (by omega) (ev_ret _)
  | succ n ih =>
    intro o j i h h0 hj hn ho hr
    obtain ⟨x, i', h', e, x0, x1, q⟩ := l01Below_some b hb i h 10000 h0 (by omega) (by omega)
    obtain ⟨t, ht, hl, hx⟩ := ih (o ++ [x]) (j + 1) i' h' q (by omega) (by omega) (by simp; omega) (fun y hy => by
      rcases List.mem_append.1 hy with hy | hy
      · exact hr y hy
      · rw [List.mem_singleton.1 hy]
        exact ⟨x0, x1⟩)
    refine ⟨t, ev_step ?_, hl, hx⟩
    simp only [spec_DrawPlaces.l0]
    refine ev_pos (by omega) (ev_bindc e (ev_pos (by omega) ?_))
    rw [w64 (x := j + 1) (by omega) (by omega)]
    exact ht
theorem DrawPlaces_ev (b : List Int) (hb : b.length ≤ 140737488351232) : ∃ t, Ev (fun k => spec_DrawPlaces.f k b) t ∧ t.length = 12 ∧ ∀ x ∈ t, 0 ≤ x ∧ x < 10000 := by
  unfold spec_DrawPlaces.f
  obtain ⟨h, e⟩ := l01New_ev b hb
  obtain ⟨x, i1, h1, e1, _, _, q1⟩ := l01Byte_some b hb 0 h (by omega)
  obtain ⟨t, ht, hl, hx⟩ := DrawPlaces_l0 b hb 12 [] 0 i1 h1 q1 (by omega) (by omega) (by simp) (by simp)
  exact ⟨t, Ev.bind e (ev_bindc e1 ht), hl, hx⟩
theorem rd_mem {l : List Int} {i : Int} (h0 : 0 ≤ i) (h1 : i < l.length) : rd l i ∈ l := by
  unfold rd
  rw [List.getD_eq_getElem?_getD, List.getElem?_eq_getElem (show i.toNat < l.length by omega)]
  exact List.getElem_mem _

theorem set_take {α : Type} (l : List α) (i : Nat) (x : α) (h : i < l.length) : (l.set i x).take (i + 1) = l.take i ++ [x] := by
  apply List.ext_getElem?
  intro j
  rcases Nat.lt_trichotomy j i with hj | hj | hj
  · rw [List.getElem?_take_of_lt (by omega), List.getElem?_set_ne (by omega), List.getElem?_append_left (by simp; omega), List.getElem?_take_of_lt hj]
  · subst hj
    rw [List.getElem?_take_of_lt (by omega), List.getElem?_set_self h, List.getElem?_append_right (by simp; omega)]
    simp [Nat.min_eq_left (Nat.le_of_lt h)]
  · rw [List.getElem?_eq_none (by simp; omega), List.getElem?_eq_none (by simp; omega)]
theorem take_rd {α : Type} (d : α) {l : List α} {i : Int} (h0 : 0 ≤ i) (h1 : i < l.length) : l.take (i + 1).toNat = l.take i.toNat ++ [rdOf d l i] := by
  have h2 : i.toNat < l.length := by omega
  rw [show (i + 1).toNat = i.toNat + 1 by omega, List.take_succ_eq_append_getElem h2]
  unfold rdOf
  rw [List.getD_eq_getElem?_getD, List.getElem?_eq_getElem h2]
  rfl
theorem rd_rdOf (l : List Int) (i : Int) : rd l i = rdOf 0 l i := rfl
theorem rdOf_mem {α : Type} {d : α} {l : List α} {i : Int} (h0 : 0 ≤ i) (h1 : i < l.length) : rdOf d l i ∈ l := by
  unfold rdOf
  rw [List.getD_eq_getElem?_getD, List.getElem?_eq_getElem (show i.toNat < l.length by omega)]
  exact List.getElem_mem _
/-- A copy made element by element, one round. -/
theorem copy_step {α : Type} (d : α) {src acc : List α} {i : Int} (h0 : 0 ≤ i) (h1 : i < src.length) (hl : acc.length = src.length) (ht : acc.take i.toNat = src.take i.toNat) :
    (acc.set i.toNat (rdOf d src i)).length = src.length ∧ (acc.set i.toNat (rdOf d src i)).take (i + 1).toNat = src.take (i + 1).toNat := by
  refine ⟨by simpa using hl, ?_⟩
  rw [take_rd d h0 h1, ← ht, show (i + 1).toNat = i.toNat + 1 by omega, set_take _ _ _ (by omega)]
theorem copy_end {α : Type} {src acc : List α} {i : Int} (h0 : 0 ≤ i) (h1 : ¬ i < src.length) (hl : acc.length = src.length) (ht : acc.take i.toNat = src.take i.toNat) : acc = src := by
  rw [List.take_of_length_le (by omega), List.take_of_length_le (by omega)] at ht
  exact ht

def vok (n : Int) : Prop := -1000000 ≤ n ∧ n ≤ 1000000
instance (n : Int) : Decidable (vok n) := inferInstanceAs (Decidable (_ ∧ _))
def bit (b : Bool) : Int := if b then 1 else 0
def rawP (op a b : Int) : Int :=
  if op = 1 then a + b else if op = 2 then a - b else if op = 3 then a * b else if op = 4 then Int.tdiv a b else if op = 5 then Int.tmod a b
  else if op = 6 then bit (decide (a < b)) else if op = 7 then bit (a == b) else if op = 8 then bit (a != 0 && b != 0) else if op = 9 then bit (a != 0 || b != 0) else 0
def calcP (op a b : Int) : Int × Int :=
  if (1 ≤ op ∧ op ≤ 9) ∧ vok a ∧ vok b then (if b = 0 ∧ (op = 4 ∨ op = 5) then (0, 2) else if vok (rawP op a b) then (rawP op a b, 0) else (0, 1)) else (0, 1)
theorem bit_some (b : Bool) : (if b = true then (some 1) else (some 0) : Option Int) = some (bit b) := by cases b <;> rfl
theorem mul_small {a b : Int} (ha : vok a) (hb : vok b) : -1000000000000 ≤ a * b ∧ a * b ≤ 1000000000000 := by
  obtain ⟨a0, a1⟩ := ha
  obtain ⟨b0, b1⟩ := hb
  have h1 : 0 ≤ (1000000 - a) * (1000000 + b) := Int.mul_nonneg (by omega) (by omega)
  have h2 : 0 ≤ (1000000 + a) * (1000000 - b) := Int.mul_nonneg (by omega) (by omega)
  have h3 : 0 ≤ (1000000 - a) * (1000000 - b) := Int.mul_nonneg (by omega) (by omega)
  have h4 : 0 ≤ (1000000 + a) * (1000000 + b) := Int.mul_nonneg (by omega) (by omega)
  rw [Int.sub_mul, Int.mul_add, Int.mul_add] at h1
  rw [Int.add_mul, Int.mul_sub, Int.mul_sub] at h2
  rw [Int.sub_mul, Int.mul_sub, Int.mul_sub] at h3
  rw [Int.add_mul, Int.mul_add, Int.mul_add] at h4
  constructor <;> omega
theorem tdiv_small {a b : Int} (ha : vok a) : -1000000 ≤ Int.tdiv a b ∧ Int.tdiv a b ≤ 1000000 := by
  obtain ⟨a0, a1⟩ := ha
  have h : (Int.tdiv a b).natAbs ≤ a.natAbs := by
    rw [Int.natAbs_tdiv]
    exact Nat.div_le_self _ _
  omega
theorem vok_some_neg : True := trivial

theorem pickInt_mem (b : List Int) (hb : b.length ≤ 140737488351232) (i h : Int) (l : List Int) (h0 : 0 ≤ i) (hl : 0 < l.length) (hl2 : l.length ≤ 1000) : ∃ x i' h', spec_l01PickInt.f b i h l = some (x, i', h') ∧ x ∈ l ∧ 0 ≤ i' := by
  unfold spec_l01PickInt.f
  obtain ⟨x, i', h', e, x0, x1, q⟩ := l01Below_some b hb i h l.length h0 (by omega) (by omega)
  rw [e]
  simp only [Option.bind_some]
  rw [if_pos x0, if_pos x1]
  exact ⟨_, _, _, rfl, rdOf_mem (d := 0) x0 x1, q⟩
theorem pick_mem (b : List Int) (hb : b.length ≤ 140737488351232) (i h : Int) (l : List ByteArray) (h0 : 0 ≤ i) (hl : 0 < l.length) (hl2 : l.length ≤ 1000) : ∃ x i' h', spec_l01Pick.f b i h l = some (x, i', h') ∧ x ∈ l ∧ 0 ≤ i' := by
  unfold spec_l01Pick.f
  obtain ⟨x, i', h', e, x0, x1, q⟩ := l01Below_some b hb i h l.length h0 (by omega) (by omega)
  rw [e]
  simp only [Option.bind_some]
  rw [if_pos x0, if_pos x1]
  exact ⟨_, _, _, rfl, rdOf_mem x0 x1, q⟩
def names5 : List ByteArray := [(⟨#[118]⟩ : ByteArray), (⟨#[119]⟩ : ByteArray), (⟨#[110]⟩ : ByteArray), (⟨#[120]⟩ : ByteArray), (⟨#[114, 101, 115, 117, 108, 116]⟩ : ByteArray)]
theorem l10Env_l0 (b : List Int) (hb : b.length ≤ 140737488351232) (m : Nat) : ∀ (i : Nat) (q h : Int) (ns : List ByteArray) (vs : List Int), i + m = 5 → 0 ≤ q → ns = names5.take i → vs.length = i → (∀ x ∈ vs, vok x) →
    ∃ (n : Nat) (ws : List Int) (q' h' : Int), Ev (fun k => spec_l10Env.l0 k names5 i b q h ns vs) (names5.take n, ws, q', h') ∧ (i ≤ n ∧ (i = 0 → 1 ≤ n)) ∧ n ≤ 5 ∧ ws.length = n ∧ (∀ x ∈ ws, vok x) ∧ 0 ≤ q' := by
  induction m with
  | zero =>
    intro i q h ns vs him h0 hns hvs hv
    obtain ⟨x, q1, h1, e, x0, x1, p1⟩ := l01Below_some b hb q h 5 h0 (by omega) (by omega)
    refine ⟨i, vs, q1, h1, ev_step ?_, ⟨by omega, by omega⟩, by omega, hvs, hv, p1⟩
    simp only [spec_l10Env.l0]
    refine ev_bindc e ?_
    rw [w64 (x := 1 + x) (by omega) (by omega), hns]
    exact ev_neg (by omega) (ev_ret _)
  | succ m ih =>
    intro i q h ns vs him h0 hns hvs hv
    obtain ⟨x, q1, h1, e, x0, x1, p1⟩ := l01Below_some b hb q h 5 h0 (by omega) (by omega)
    by_cases c : (i : Int) < 1 + x
    · obtain ⟨y, q2, h2, e2, y0, p2⟩ := pickInt_mem b hb q1 h1 [0, 1, 2, (-3), 1000, 999999] p1 (by decide) (by decide)
      have hy : vok y := by
        simp only [List.mem_cons, List.not_mem_nil, or_false] at y0
        unfold vok
        omega
      have hl5 : names5.length = 5 := rfl
      have ht := take_rd ByteArray.empty (l := names5) (i := (i : Int)) (by omega) (by omega)
      rw [show ((i : Int) + 1).toNat = i + 1 by omega, show ((i : Int)).toNat = i by omega] at ht
      obtain ⟨n, ws, q', h', r, r1, r2, r3, r4, r5⟩ := ih (i + 1) q2 h2 (ns ++ [rdOf ByteArray.empty names5 i]) (vs ++ [y]) (by omega) p2 (by rw [hns, ht]) (by simp; omega) (fun z hz => by
        rcases List.mem_append.1 hz with hz | hz
        · exact hv z hz
        · rw [List.mem_singleton.1 hz]
          exact hy)
      refine ⟨n, ws, q', h', ev_step ?_, ⟨by omega, by omega⟩, r2, r3, r4, r5⟩
      · simp only [spec_l10Env.l0]
        refine ev_bindc e ?_
        rw [w64 (x := 1 + x) (by omega) (by omega), w64 (x := (i : Int) + 1) (by omega) (by omega)]
        have hnl : ns.length = i := by
          rw [hns, List.length_take]
          omega
        exact ev_pos c (ev_pos (by omega) (ev_pos (by omega) (ev_pos (by omega) (ev_bindc e2 (ev_pos (by omega) r)))))
    · refine ⟨i, vs, q1, h1, ev_step ?_, ⟨by omega, by omega⟩, by omega, hvs, hv, p1⟩
      simp only [spec_l10Env.l0]
      refine ev_bindc e ?_
      rw [w64 (x := 1 + x) (by omega) (by omega), hns]
      exact ev_neg c (ev_ret _)
theorem l10Env_ev (b : List Int) (hb : b.length ≤ 140737488351232) (q h : Int) (h0 : 0 ≤ q) : ∃ (n : Nat) (ws : List Int) (q' h' : Int), Ev (fun k => spec_l10Env.f k b q h) (names5.take n, ws, q', h') ∧ 1 ≤ n ∧ n ≤ 5 ∧ ws.length = n ∧ (∀ x ∈ ws, vok x) ∧ 0 ≤ q' := by
  obtain ⟨n, ws, q', h', r, r1, r2, r3, r4, r5⟩ := l10Env_l0 b hb 5 0 q h [] [] (by omega) h0 rfl rfl (fun x hx => by cases hx)
  exact ⟨n, ws, q', h', r, r1.2 rfl, r2, r3, r4, r5⟩
theorem names5_size : ∀ x ∈ names5, x.size ≤ 6 := by decide
theorem names5_take (n : Nat) (hn : n ≤ 5) : (names5.take n).length = n ∧ ∀ x ∈ names5.take n, x.size ≤ 6 := by
  refine ⟨?_, fun x hx => names5_size x (List.mem_of_mem_take hx)⟩
  rw [List.length_take, show names5.length = 5 from rfl]
  omega
theorem l10Copy_some (ns : List ByteArray) (vs : List Int) (h1 : ns.length ≤ 1048576) (h2 : vs.length ≤ 1048576) : spec_l10Copy.f ns vs = some (ns, vs) := by
  unfold spec_l10Copy.f
  simp only [Option.bind_some]
  rw [if_pos (by simp; omega), if_pos (by simp; omega)]
  simp
theorem l10Any_ev (b : List Int) (hb : b.length ≤ 140737488351232) (q h : Int) (h0 : 0 ≤ q) : ∃ (ns : List ByteArray) (ws : List Int) (q' h' : Int), Ev (fun k => spec_l10Any.f k b q h) (ns, ws, q', h') ∧ ns.length ≤ 6 ∧ ws.length ≤ 6 ∧ (∀ x ∈ ns, x.size ≤ 6) ∧ 0 ≤ q' := by
  unfold spec_l10Any.f
  obtain ⟨x, q1, h1, e, _, _, p1⟩ := l01Below_some b hb q h 10 h0 (by omega) (by omega)
  obtain ⟨n, ws, q2, h2, e2, n1, n5, hw, _, p2⟩ := l10Env_ev b hb q1 h1 p1
  obtain ⟨hl, hz⟩ := names5_take n n5
  have hcp := l10Copy_some (names5.take n) ws (by omega) (by omega)
  generalize names5.take n = ns at e2 hl hz hcp
  by_cases c0 : x = 0
  · obtain ⟨y, q3, h3, e3, _, p3⟩ := pickInt_mem b hb q2 h2 [0, 1, 2, 3, (-1), 7, 1000, 1000000, (-1000000), 999999, 1000001, (-9223372036854775808), 9223372036854775807] p2 (by decide) (by decide)
    have e4 : spec_l03Val.f b q2 h2 = some (y, q3, h3) := by
      unfold spec_l03Val.f
      rw [e3]
      rfl
    exact ⟨ns, ws.set 0 y, q3, h3, ev_bindc e (Ev.bind e2 (ev_bindc hcp (ev_pos c0 (ev_bindc e4 (ev_pos (show 0 < (ws.length : Int) by omega) (ev_ret _)))))), by omega, by rw [List.length_set]; omega, hz, p3⟩
  · by_cases c1 : x = 1
    · refine ⟨ns ++ [(⟨#[118]⟩ : ByteArray)], ws, q2, h2, ev_bindc e (Ev.bind e2 (ev_bindc hcp (ev_neg c0 (ev_pos c1 (ev_pos (show ns.length < 8796093022208 by omega) (ev_ret _)))))), by rw [List.length_append, List.length_singleton]; omega, by omega, ?_, p2⟩
      intro z hz2
      rcases List.mem_append.1 hz2 with hz2 | hz2
      · exact hz z hz2
      · rw [List.mem_singleton.1 hz2]
        decide
    · by_cases c2 : x = 2
      · obtain ⟨y, q3, h3, e3, hy, p3⟩ := pick_mem b hb q2 h2 [(⟨#[]⟩ : ByteArray), (⟨#[98, 101, 103, 105, 110]⟩ : ByteArray), (⟨#[110]⟩ : ByteArray)] p2 (by decide) (by decide)
        have hys : y.size ≤ 6 := by
          have : ∀ z ∈ [(⟨#[]⟩ : ByteArray), (⟨#[98, 101, 103, 105, 110]⟩ : ByteArray), (⟨#[110]⟩ : ByteArray)], z.size ≤ 6 := by decide
          exact this y hy
        refine ⟨ns.set 0 y, ws, q3, h3, ev_bindc e (Ev.bind e2 (ev_bindc hcp (ev_neg c0 (ev_neg c1 (ev_pos c2 (ev_bindc e3 (ev_pos (show 0 < (ns.length : Int) by omega) (ev_ret _)))))))), by rw [List.length_set]; omega, by omega, ?_, p3⟩
        intro z hz2
        rcases List.mem_or_eq_of_mem_set hz2 with hz2 | hz2
        · exact hz z hz2
        · rw [hz2]
          exact hys
      · exact ⟨ns, ws, q2, h2, ev_bindc e (Ev.bind e2 (ev_bindc hcp (ev_neg c0 (ev_neg c1 (ev_neg c2 (ev_ret _)))))), by omega, by omega, hz, p2⟩

theorem sameTexts_l0 (l : List ByteArray) (hl : l.length ≤ 9223372036854775806) (n : Nat) : ∀ i : Int, 0 ≤ i → (l.length : Int) - i = n → Ev (fun k => laws_sameTexts.l0 k l l i) true := by
  induction n with
  | zero =>
    intro i h0 hn
    refine ev_step ?_
    simp only [laws_sameTexts.l0]
    exact ev_neg (by omega) (ev_ret _)
  | succ n ih =>
    intro i h0 hn
    refine ev_step ?_
    simp only [laws_sameTexts.l0]
    refine ev_pos (by omega) (ev_pos h0 (ev_pos (by omega) (ev_pos (by simp) ?_)))
    rw [w64 (x := i + 1) (by omega) (by omega)]
    exact ih (i + 1) (by omega) (by omega)
theorem sameTexts_ev (l : List ByteArray) (hl : l.length ≤ 9223372036854775806) : Ev (fun k => laws_sameTexts.f k l l) true := by
  unfold laws_sameTexts.f
  exact ev_pos rfl (sameTexts_l0 l hl l.length 0 (by omega) (by omega))
theorem sameInts_l0 (l : List Int) (hl : l.length ≤ 9223372036854775806) (n : Nat) : ∀ i : Int, 0 ≤ i → (l.length : Int) - i = n → Ev (fun k => laws_sameInts.l0 k l l i) true := by
  induction n with
  | zero =>
    intro i h0 hn
    refine ev_step ?_
    simp only [laws_sameInts.l0]
    exact ev_neg (by omega) (ev_ret _)
  | succ n ih =>
    intro i h0 hn
    refine ev_step ?_
    simp only [laws_sameInts.l0]
    refine ev_pos (by omega) (ev_pos h0 (ev_pos (by omega) (ev_pos (by simp) ?_)))
    rw [w64 (x := i + 1) (by omega) (by omega)]
    exact ih (i + 1) (by omega) (by omega)
theorem sameInts_ev (l : List Int) (hl : l.length ≤ 9223372036854775806) : Ev (fun k => laws_sameInts.f k l l) true := by
  unfold laws_sameInts.f
  exact ev_pos rfl (sameInts_l0 l hl l.length 0 (by omega) (by omega))
theorem sameEnv_ev (ns : List ByteArray) (vs : List Int) (h1 : ns.length ≤ 1000000000) (h2 : vs.length ≤ 1000000000) : Ev (fun k => laws_sameEnv.f k ns vs ns vs) true := by
  unfold laws_sameEnv.f
  exact Ev.bind (sameTexts_ev ns (by omega)) (ev_pos rfl (Ev.bind (sameInts_ev vs (by omega)) (ev_ret _)))

/-- The first place of a text in a list, counted from j on; -1 without it. -/
def idxT (s : ByteArray) : List ByteArray → Int → Int
  | [], _ => -1
  | y :: l, j => if y = s then j else idxT s l (j + 1)
theorem idxT_mem (s : ByteArray) : ∀ (l : List ByteArray) (j : Int), 0 ≤ j → (idxT s l j ≥ 0 ↔ s ∈ l)
  | [], j, _ => by simp [idxT]
  | y :: l, j, h => by
    unfold idxT
    by_cases c : y = s
    · rw [if_pos c]
      simp [c, h]
    · rw [if_neg c, idxT_mem s l (j + 1) (by omega)]
      have c' : ¬ s = y := fun h => c h.symm
      simp [c']
theorem slices_Index_l0 (l : List ByteArray) (s : ByteArray) (hl : l.length ≤ 140737488351232) (n : Nat) : ∀ (i : Int), 0 ≤ i → (l.length : Int) - i = n → Ev (fun k => slices_Index_string_string.l0 k l s (l.length : Int) i) (idxT s (l.drop i.toNat) i) := by
  induction n with
  | zero =>
    intro i h0 hi
    refine ev_step ?_
    simp only [slices_Index_string_string.l0]
    rw [drop_end h0 (by omega)]
    exact ev_neg (by omega) (ev_ret _)
  | succ n ih =>
    intro i h0 hi
    refine ev_step ?_
    simp only [slices_Index_string_string.l0]
    refine ev_pos (by omega) (ev_pos h0 (ev_pos (by omega) ?_))
    rw [drop_rd (d := ByteArray.empty) h0 (by omega)]
    unfold idxT
    by_cases c : s.toList = (rdOf ByteArray.empty l i).toList
    · refine ev_pos c (ev_eq ?_ (ev_ret _))
      rw [toList_eq_iff] at c
      rw [if_pos c.symm]
    · refine ev_neg c ?_
      rw [w64 (x := i + 1) (by omega) (by omega)]
      refine ev_eq ?_ (ih (i + 1) (by omega) (by omega))
      rw [toList_eq_iff] at c
      rw [if_neg (fun h => c h.symm)]
theorem slices_Index_ev (l : List ByteArray) (s : ByteArray) (hl : l.length ≤ 140737488351232) : Ev (fun k => slices_Index_string_string.f k l s) (idxT s l 0) :=
  slices_Index_l0 l s hl l.length 0 (by omega) (by omega)

theorem slices_Contains_ev (l : List ByteArray) (s : ByteArray) (hl : l.length ≤ 140737488351232) : Ev (fun k => slices_Contains_string_string.f k l s) (decide (s ∈ l)) := by
  unfold slices_Contains_string_string.f
  refine Ev.bind (slices_Index_ev l s hl) (ev_eq ?_ (ev_ret _))
  rw [decide_eq_decide]
  exact idxT_mem s l 0 (by omega)

theorem l08In_l0 (l : List ByteArray) (s : ByteArray) (hl : l.length ≤ 9223372036854775806) (n : Nat) : ∀ i : Int, 0 ≤ i → (l.length : Int) - i = n → Ev (fun k => spec_l08In.l0 k l s i) (decide (s ∈ l.drop i.toNat)) := by
  induction n with
  | zero =>
    intro i h0 hn
    refine ev_step ?_
    simp only [spec_l08In.l0]
    rw [drop_end h0 (by omega)]
    exact ev_neg (by omega) (ev_eq (by simp) (ev_ret _))
  | succ n ih =>
    intro i h0 hn
    refine ev_step ?_
    simp only [spec_l08In.l0]
    refine ev_pos (by omega) (ev_pos h0 ?_)
    rw [drop_rd (d := ByteArray.empty) h0 (by omega)]
    by_cases c : (rdOf ByteArray.empty l i).toList = s.toList
    · refine ev_pos c (ev_eq ?_ (ev_ret _))
      rw [toList_eq_iff] at c
      simp [c]
    · refine ev_neg c ?_
      rw [w64 (x := i + 1) (by omega) (by omega)]
      refine ev_eq ?_ (ih (i + 1) (by omega) (by omega))
      rw [toList_eq_iff] at c
      have c' : ¬ s = rdOf ByteArray.empty l i := fun h => c h.symm
      simp [c']
theorem l08In_ev (l : List ByteArray) (s : ByteArray) (hl : l.length ≤ 9223372036854775806) : Ev (fun k => spec_l08In.f k l s) (decide (s ∈ l)) := by
  unfold spec_l08In.f
  have h := l08In_l0 l s hl l.length 0 (by omega) (by omega)
  simpa using h

def togN (a : List ByteArray) : List ByteArray → List Int → List ByteArray
  | n :: ns, _ :: vs => if n ∈ a then togN a ns vs else n :: togN a ns vs
  | _, _ => []
def togV (a : List ByteArray) : List ByteArray → List Int → List Int
  | n :: ns, v :: vs => if n ∈ a then togV a ns vs else v :: togV a ns vs
  | _, _ => []
theorem tog_length (a : List ByteArray) : ∀ (ns : List ByteArray) (vs : List Int), (togN a ns vs).length ≤ ns.length ∧ (togV a ns vs).length ≤ ns.length
  | [], vs => by simp [togN, togV]
  | n :: ns, [] => by simp [togN, togV]
  | n :: ns, v :: vs => by
    have h := tog_length a ns vs
    unfold togN togV
    by_cases c : n ∈ a
    · rw [if_pos c, if_pos c]
      simp only [List.length_cons]
      omega
    · rw [if_neg c, if_neg c]
      simp only [List.length_cons]
      omega
theorem tog_nil (a ns : List ByteArray) : togN a ns [] = [] ∧ togV a ns [] = [] := by
  cases ns <;> exact ⟨rfl, rfl⟩
theorem spec_Together_l0 (a : List ByteArray) (av : List Int) (ns : List ByteArray) (vs : List Int) (ha : a.length ≤ 1048576) (hl : ns.length ≤ 1048576) (n : Nat) : ∀ (i : Int) (x : List ByteArray) (y : List Int), 0 ≤ i → (ns.length : Int) - i ≤ n → i ≤ ns.length → (x.length : Int) ≤ 1048576 + i → (y.length : Int) ≤ 1048576 + i →
    Ev (fun k => spec_Together.l0 k i a av ns vs x y) (x ++ togN a (ns.drop i.toNat) (vs.drop i.toNat), y ++ togV a (ns.drop i.toNat) (vs.drop i.toNat)) := by
  have stop : ∀ (i : Int) x y, Ev (fun k => spec_Together.j1 k i false a av ns vs x y) (x, y) := by
    intro i x y
    refine ev_step ?_
    simp only [spec_Together.j1]
    exact ev_neg (by simp) (ev_ret _)
  induction n with
  | zero =>
    intro i x y h0 hn hi hx hy
    refine ev_step ?_
    simp only [spec_Together.l0]
    rw [drop_end (l := ns) h0 (by omega), show togN a [] (vs.drop i.toNat) = [] from rfl, show togV a [] (vs.drop i.toNat) = [] from rfl, List.append_nil, List.append_nil]
    exact ev_neg (by omega) (stop i x y)
  | succ n ih =>
    intro i x y h0 hn hi hx hy
    refine ev_step ?_
    simp only [spec_Together.l0]
    by_cases c : i < (ns.length : Int)
    · refine ev_pos c ?_
      by_cases c2 : i < (vs.length : Int)
      · rw [show decide (i < (vs.length : Int)) = true by simpa using c2]
        refine ev_step ?_
        simp only [spec_Together.j1]
        rw [drop_rd (d := ByteArray.empty) (l := ns) h0 c, drop_rd (d := (0 : Int)) (l := vs) h0 c2, w64 (x := i + 1) (by omega) (by omega)]
        unfold togN togV
        refine ev_pos (by simp) (ev_pos h0 (ev_pos c (Ev.bind (l08In_ev a (rdOf ByteArray.empty ns i) (by omega)) ?_)))
        by_cases c3 : rdOf ByteArray.empty ns i ∈ a
        · rw [if_pos c3, if_pos c3]
          exact ev_pos (by simpa using c3) (ih (i + 1) x y (by omega) (by omega) (by omega) (by omega) (by omega))
        · rw [if_neg c3, if_neg c3]
          refine ev_neg (by simpa using c3) (ev_pos (by omega) (ev_pos c2 (ev_pos (by omega) ?_)))
          refine ev_eq ?_ (ih (i + 1) (x ++ [rdOf ByteArray.empty ns i]) (y ++ [rd vs i]) (by omega) (by omega) (by omega) (by simp; omega) (by simp; omega))
          simp only [List.append_assoc, List.cons_append, List.nil_append, rd_rdOf]
      · rw [drop_end (l := vs) h0 c2, show decide (i < (vs.length : Int)) = false by simpa using c2, (tog_nil a _).1, (tog_nil a _).2, List.append_nil, List.append_nil]
        exact stop i x y
    · rw [drop_end (l := ns) h0 c, show togN a [] (vs.drop i.toNat) = [] from rfl, show togV a [] (vs.drop i.toNat) = [] from rfl, List.append_nil, List.append_nil]
      exact ev_neg c (stop i x y)
theorem spec_Together_ev (a : List ByteArray) (av : List Int) (ns : List ByteArray) (vs : List Int) (ha : a.length ≤ 1048576) (hav : av.length ≤ 1048576) (hl : ns.length ≤ 1048576) : Ev (fun k => spec_Together.f k a av ns vs) (a ++ togN a ns vs, av ++ togV a ns vs) := by
  have hc : spec_l10Copy.f a av = some (a, av) := by
    unfold spec_l10Copy.f
    simp only [Option.bind_some]
    rw [if_pos (by simp; omega), if_pos (by simp; omega)]
    simp
  have h := spec_Together_l0 a av ns vs ha hl ns.length 0 a av (by omega) (by omega) (by omega) (by omega) (by omega)
  simp only [Int.toNat_zero, List.drop_zero] at h
  unfold spec_Together.f
  exact ev_bindc hc h
theorem impl_Together_l0 (a : List ByteArray) (av : List Int) (ns : List ByteArray) (vs : List Int) (ha : a.length ≤ 1048576) (hl : ns.length ≤ 1048576) (n : Nat) : ∀ (i : Int) (x : List ByteArray) (y : List Int), 0 ≤ i → (ns.length : Int) - i ≤ n → i ≤ ns.length → (x.length : Int) ≤ 1048576 + i → (y.length : Int) ≤ 1048576 + i →
    Ev (fun k => impl_Together.l0 k ns (ns.length : Int) i a av ns vs x y) (x ++ togN a (ns.drop i.toNat) (vs.drop i.toNat), y ++ togV a (ns.drop i.toNat) (vs.drop i.toNat)) := by
  induction n with
  | zero =>
    intro i x y h0 hn hi hx hy
    refine ev_step ?_
    simp only [impl_Together.l0]
    rw [drop_end (l := ns) h0 (by omega), show togN a [] (vs.drop i.toNat) = [] from rfl, show togV a [] (vs.drop i.toNat) = [] from rfl, List.append_nil, List.append_nil]
    exact ev_neg (by omega) (ev_ret _)
  | succ n ih =>
    intro i x y h0 hn hi hx hy
    refine ev_step ?_
    simp only [impl_Together.l0]
    by_cases c : i < (ns.length : Int)
    · rw [w64 (x := i + 1) (by omega) (by omega), drop_rd (d := ByteArray.empty) (l := ns) h0 c]
      refine ev_pos c (ev_pos h0 (ev_pos c ?_))
      by_cases c2 : i < (vs.length : Int)
      · rw [drop_rd (d := (0 : Int)) (l := vs) h0 c2]
        unfold togN togV
        refine ev_pos c2 (Ev.bind (slices_Contains_ev a (rdOf ByteArray.empty ns i) (by omega)) ?_)
        by_cases c3 : rdOf ByteArray.empty ns i ∈ a
        · rw [if_pos c3, if_pos c3]
          exact ev_pos (by simpa using c3) (ih (i + 1) x y (by omega) (by omega) (by omega) (by omega) (by omega))
        · rw [if_neg c3, if_neg c3]
          refine ev_neg (by simpa using c3) (ev_pos (by omega) (ev_pos (by omega) ?_))
          refine ev_eq ?_ (ih (i + 1) (x ++ [rdOf ByteArray.empty ns i]) (y ++ [rd vs i]) (by omega) (by omega) (by omega) (by simp; omega) (by simp; omega))
          simp only [List.append_assoc, List.cons_append, List.nil_append, rd_rdOf]
      · refine ev_neg c2 ?_
        have h := ih (i + 1) x y (by omega) (by omega) (by omega) (by omega) (by omega)
        rw [drop_end (l := vs) (i := i + 1) (by omega) (by omega), (tog_nil a _).1, (tog_nil a _).2] at h
        rw [drop_end (l := vs) h0 c2, (tog_nil a _).1, (tog_nil a _).2]
        exact h
    · rw [drop_end (l := ns) h0 c, show togN a [] (vs.drop i.toNat) = [] from rfl, show togV a [] (vs.drop i.toNat) = [] from rfl, List.append_nil, List.append_nil]
      exact ev_neg c (ev_ret _)
theorem impl_Together_ev (a : List ByteArray) (av : List Int) (ns : List ByteArray) (vs : List Int) (ha : a.length ≤ 1048576) (hav : av.length ≤ 1048576) (hl : ns.length ≤ 1048576) : Ev (fun k => impl_Together.f k a av ns vs) (a ++ togN a ns vs, av ++ togV a ns vs) := by
  have hc : impl_copyEnv.f a av = some (a, av) := by
    unfold impl_copyEnv.f
    rw [if_pos (by simp; omega), if_pos (by simp; omega)]
    simp
  have h := impl_Together_l0 a av ns vs ha hl ns.length 0 a av (by omega) (by omega) (by omega) (by omega) (by omega)
  simp only [Int.toNat_zero, List.drop_zero] at h
  unfold impl_Together.f
  exact ev_bindc hc h

theorem within_some (n lo hi : Int) : impl_within.f n lo hi = some (decide (lo ≤ n ∧ n ≤ hi)) := by
  unfold impl_within.f
  by_cases c : n ≥ lo
  · rw [if_pos c]
    simp [c]
  · rw [if_neg c]
    have c' : ¬ lo ≤ n := c
    simp [c']

theorem l01In_some (n lo hi : Int) : spec_l01In.f n lo hi = some (decide (lo ≤ n ∧ n ≤ hi)) := by
  unfold spec_l01In.f
  by_cases c : n ≥ lo
  · rw [if_pos c]
    simp [c]
  · rw [if_neg c]
    have c' : ¬ lo ≤ n := c
    simp [c']

/-- Where a name's value stands, it is put. -/
def putP (s : ByteArray) (x : Int) : List ByteArray → List Int → List Int
  | n :: ns, v :: vs => if n = s then x :: vs else v :: putP s x ns vs
  | _, vs => vs
def putV (s : ByteArray) (x : Int) (ns : List ByteArray) (vs : List Int) : List Int := if vok x then putP s x ns vs else vs
theorem putP_length (s : ByteArray) (x : Int) : ∀ (ns : List ByteArray) (vs : List Int), (putP s x ns vs).length = vs.length
  | [], vs => by simp [putP]
  | n :: ns, [] => by simp [putP]
  | n :: ns, v :: vs => by
    unfold putP
    by_cases c : n = s
    · rw [if_pos c]
      simp
    · rw [if_neg c]
      simp [putP_length s x ns vs]
theorem putV_length (s : ByteArray) (x : Int) (ns : List ByteArray) (vs : List Int) : (putV s x ns vs).length = vs.length := by
  unfold putV
  split
  · exact putP_length s x ns vs
  · rfl
theorem putP_nil (s : ByteArray) (x : Int) (ns : List ByteArray) : putP s x ns [] = [] := by
  cases ns <;> rfl
theorem set_place (vals : List Int) (j : Int) (x : Int) (h0 : 0 ≤ j) (h1 : j < vals.length) : vals.set j.toNat x = vals.take j.toNat ++ x :: vals.drop (j + 1).toNat := by
  rw [List.set_eq_take_append_cons_drop, if_pos (by omega), show (j + 1).toNat = j.toNat + 1 by omega]
theorem take_place (vals : List Int) (j : Int) (h0 : 0 ≤ j) (h1 : j < vals.length) (l : List Int) : vals.take (j + 1).toNat ++ l = vals.take j.toNat ++ rdOf 0 vals j :: l := by
  rw [take_rd (0 : Int) h0 h1, List.append_assoc]
  rfl
theorem idxT_least (s : ByteArray) : ∀ (l : List ByteArray) (q : Int), 0 ≤ q → idxT s l q = -1 ∨ q ≤ idxT s l q
  | [], q, _ => Or.inl rfl
  | y :: l, q, hq => by
    unfold idxT
    by_cases c : y = s
    · rw [if_pos c]
      exact Or.inr (Int.le_refl _)
    · rw [if_neg c]
      rcases idxT_least s l (q + 1) (by omega) with h1 | h1
      · exact Or.inl h1
      · exact Or.inr (by omega)
theorem idxT_put (s : ByteArray) (x : Int) (vals : List Int) : ∀ (ns : List ByteArray) (j : Int), 0 ≤ j → j ≤ vals.length →
    (if 0 ≤ idxT s ns j ∧ idxT s ns j < vals.length then vals.set (idxT s ns j).toNat x else vals) = vals.take j.toNat ++ putP s x ns (vals.drop j.toNat)
  | [], j, h, hj => by
    unfold idxT putP
    rw [if_neg (by omega), List.take_append_drop]
  | n :: ns, j, h, hj => by
    by_cases hl : j < vals.length
    · rw [drop_rd (d := (0 : Int)) h hl]
      unfold idxT putP
      by_cases c : n = s
      · rw [if_pos c, if_pos c, if_pos ⟨h, hl⟩, set_place vals j x h hl]
      · rw [if_neg c, if_neg c, idxT_put s x vals ns (j + 1) (by omega) (by omega), take_place vals j h hl]
    · rw [drop_end (l := vals) h hl, putP_nil, List.append_nil, List.take_of_length_le (by omega)]
      rcases idxT_least s (n :: ns) j h with h1 | h1
      · rw [if_neg (by omega)]
      · rw [if_neg (by omega)]
theorem impl_ValOk_some3 (n : Int) : impl_ValOk.f n = some (decide (vok n)) := by
  unfold impl_ValOk.f
  rw [within_some]
  rfl
theorem spec_ValOk_some3 (n : Int) : spec_ValOk.f n = some (decide (vok n)) := by
  unfold spec_ValOk.f
  rw [l01In_some]
  rfl
theorem impl_PutIn_ev (ns : List ByteArray) (vs : List Int) (s : ByteArray) (x : Int) (hl : ns.length ≤ 1048576) (hl2 : vs.length ≤ 1048576) : Ev (fun k => impl_PutIn.f k ns vs s x) (ns, putV s x ns vs) := by
  have key := idxT_put s x vs ns 0 (by omega) (by omega)
  simp only [Int.toNat_zero, List.take_zero, List.nil_append, List.drop_zero] at key
  have hc : impl_copyEnv.f ns vs = some (ns, vs) := by
    unfold impl_copyEnv.f
    rw [if_pos (by simp; omega), if_pos (by simp; omega)]
    simp
  unfold impl_PutIn.f impl_valAt.f
  refine ev_bindc hc ?_
  by_cases c : idxT s ns 0 ≥ (vs.length : Int)
  · refine Ev.bind (Ev.bind (slices_Index_ev ns s (by omega)) (ev_pos c (ev_ret _))) (ev_neg (by omega) (ev_eq ?_ (ev_ret _)))
    rw [if_neg (by omega)] at key
    unfold putV
    rw [← key]
    split <;> rfl
  · refine Ev.bind (Ev.bind (slices_Index_ev ns s (by omega)) (ev_neg c (ev_ret _))) ?_
    by_cases c2 : idxT s ns 0 ≥ 0
    · rw [if_pos ⟨c2, by omega⟩] at key
      refine ev_pos c2 (ev_bindc (impl_ValOk_some3 x) ?_)
      unfold putV
      by_cases c3 : vok x
      · rw [if_pos c3, ← key]
        exact ev_pos (by simpa using c3) (ev_pos c2 (ev_pos (show idxT s ns 0 < (vs.length : Int) by omega) (ev_ret _)))
      · rw [if_neg c3]
        exact ev_neg (by simpa using c3) (ev_ret _)
    · refine ev_neg c2 (ev_eq ?_ (ev_ret _))
      rw [if_neg (by omega)] at key
      unfold putV
      rw [← key]
      split <;> rfl
theorem spec_PutIn_l0 (ns : List ByteArray) (vs : List Int) (s : ByteArray) (x : Int) (hl : ns.length ≤ 1048576) (n : Nat) : ∀ (i : Int), 0 ≤ i → (ns.length : Int) - i ≤ n → i ≤ vs.length →
    Ev (fun k => spec_PutIn.l0 k s x i ns vs ns vs) (ns, if vok x then vs.take i.toNat ++ putP s x (ns.drop i.toNat) (vs.drop i.toNat) else vs) := by
  have stop : ∀ i : Int, Ev (fun k => spec_PutIn.j1 k s x i false ns vs ns vs) (ns, vs) := by
    intro i
    refine ev_step ?_
    simp only [spec_PutIn.j1]
    exact ev_neg (by simp) (ev_ret _)
  have same : ∀ i : Int, (if vok x then vs.take i.toNat ++ vs.drop i.toNat else vs) = vs := by
    intro i
    rw [List.take_append_drop]
    split <;> rfl
  induction n with
  | zero =>
    intro i h0 hn hv
    refine ev_step ?_
    simp only [spec_PutIn.l0]
    rw [drop_end (l := ns) h0 (by omega), show putP s x [] (vs.drop i.toNat) = vs.drop i.toNat from rfl, same]
    exact ev_neg (by omega) (stop i)
  | succ n ih =>
    intro i h0 hn hv
    refine ev_step ?_
    simp only [spec_PutIn.l0]
    by_cases c : i < (ns.length : Int)
    · refine ev_pos c ?_
      by_cases c2 : i < (vs.length : Int)
      · rw [show decide (i < (vs.length : Int)) = true by simpa using c2]
        refine ev_step ?_
        simp only [spec_PutIn.j1]
        refine ev_pos (by simp) (ev_pos h0 (ev_pos c ?_))
        have next := ih (i + 1) (by omega) (by omega) (by omega)
        rw [take_place vs i h0 c2] at next
        rw [w64 (x := i + 1) (by omega) (by omega), drop_rd (d := ByteArray.empty) (l := ns) h0 c, drop_rd (d := (0 : Int)) (l := vs) h0 c2]
        unfold putP
        by_cases c3 : rdOf ByteArray.empty ns i = s
        · rw [if_pos c3]
          refine ev_pos (toList_eq_iff.2 c3) (ev_bindc (spec_ValOk_some3 x) ?_)
          by_cases c4 : vok x
          · rw [if_pos c4, ← set_place vs i x h0 c2]
            exact ev_pos (by simpa using c4) (ev_pos c2 (ev_ret _))
          · rw [if_neg c4] at next ⊢
            exact ev_neg (by simpa using c4) next
        · rw [if_neg c3]
          exact ev_neg (fun h => c3 (toList_eq_iff.1 h)) next
      · rw [drop_end (l := vs) h0 c2, show decide (i < (vs.length : Int)) = false by simpa using c2, putP_nil, List.append_nil, List.take_of_length_le (by omega), show (if vok x then vs else vs) = vs by split <;> rfl]
        exact stop i
    · rw [drop_end (l := ns) h0 c, show putP s x [] (vs.drop i.toNat) = vs.drop i.toNat from rfl, same]
      exact ev_neg c (stop i)
theorem spec_PutIn_ev (ns : List ByteArray) (vs : List Int) (s : ByteArray) (x : Int) (hl : ns.length ≤ 1048576) (hl2 : vs.length ≤ 1048576) : Ev (fun k => spec_PutIn.f k ns vs s x) (ns, putV s x ns vs) := by
  unfold spec_PutIn.f
  have hc : spec_l10Copy.f ns vs = some (ns, vs) := by
    unfold spec_l10Copy.f
    simp only [Option.bind_some]
    rw [if_pos (by simp; omega), if_pos (by simp; omega)]
    simp
  have h := spec_PutIn_l0 ns vs s x hl ns.length 0 (by omega) (by omega) (by omega)
  simp only [Int.toNat_zero, List.take_zero, List.nil_append, List.drop_zero] at h
  exact ev_bindc hc h

def getP (s : ByteArray) : List ByteArray → List Int → Int
  | n :: ns, v :: vs => if n = s then v else getP s ns vs
  | _, _ => 0
/-- Where a text first stands, told with the place from which it was counted. -/
theorem idxT_get (s : ByteArray) : ∀ (ns : List ByteArray) (vs : List Int) (j : Int), 0 ≤ j → ∀ vals : List Int, vals.drop j.toNat = vs → j ≤ vals.length →
    (if 0 ≤ idxT s ns j ∧ idxT s ns j < vals.length then rd vals (idxT s ns j) else 0) = getP s ns vs
  | [], vs, j, h, vals, hv, hj => by
    unfold idxT getP
    rw [if_neg (by omega)]
  | n :: ns, vs, j, h, vals, hv, hj => by
    unfold idxT
    cases vs with
    | nil =>
      have hlen : vals.length ≤ j.toNat := List.drop_eq_nil_iff.1 hv
      have hj2 : j = vals.length := by omega
      have e : ∀ (l : List ByteArray) (q : Int), 0 ≤ q → idxT s l q = -1 ∨ q ≤ idxT s l q := by
        intro l
        induction l with
        | nil => intro q _; exact Or.inl rfl
        | cons y l ih =>
          intro q hq
          unfold idxT
          by_cases c : y = s
          · rw [if_pos c]
            exact Or.inr (Int.le_refl _)
          · rw [if_neg c]
            rcases ih (q + 1) (by omega) with h1 | h1
            · exact Or.inl h1
            · exact Or.inr (by omega)
      unfold getP
      by_cases c : n = s
      · rw [if_pos c, if_neg (by omega)]
      · rw [if_neg c]
        rcases e ns (j + 1) (by omega) with h1 | h1
        · rw [if_neg (by omega)]
        · rw [if_neg (by omega)]
    | cons v vs =>
      have hlen : j.toNat < vals.length := by
        rcases Nat.lt_or_ge j.toNat vals.length with h1 | h1
        · exact h1
        · rw [List.drop_eq_nil_of_le h1] at hv
          cases hv
      have hd := drop_rd (d := (0 : Int)) (l := vals) h (by omega)
      rw [hv] at hd
      injection hd with h1 h2
      unfold getP
      by_cases c : n = s
      · rw [if_pos c, if_pos c, if_pos ⟨h, by omega⟩, h1]
        rfl
      · rw [if_neg c, if_neg c]
        exact idxT_get s ns vs (j + 1) (by omega) vals h2.symm (by omega)
theorem impl_GetIn_ev (ns : List ByteArray) (vs : List Int) (s : ByteArray) (hl : ns.length ≤ 1048576) : Ev (fun k => impl_GetIn.f k ns vs s) (getP s ns vs) := by
  have key := idxT_get s ns vs 0 (by omega) vs rfl (by omega)
  unfold impl_GetIn.f impl_valAt.f
  by_cases c : idxT s ns 0 ≥ (vs.length : Int)
  · refine Ev.bind (Ev.bind (slices_Index_ev ns s (by omega)) (ev_pos c (ev_ret _))) (ev_neg (by omega) (ev_eq ?_ (ev_ret _)))
    rw [← key, if_neg (by omega)]
  · refine Ev.bind (Ev.bind (slices_Index_ev ns s (by omega)) (ev_neg c (ev_ret _))) ?_
    by_cases c2 : idxT s ns 0 ≥ 0
    · refine ev_pos c2 (ev_pos c2 (ev_pos (by omega) (ev_eq ?_ (ev_ret _))))
      rw [← key, if_pos ⟨c2, by omega⟩]
    · refine ev_neg c2 (ev_eq ?_ (ev_ret _))
      rw [← key, if_neg (by omega)]

def keyList : List ByteArray := [(⟨#[109, 111, 110, 105, 116, 111, 114]⟩ : ByteArray), (⟨#[118, 97, 114]⟩ : ByteArray), (⟨#[113, 117, 101, 117, 101]⟩ : ByteArray), (⟨#[101, 110, 116, 114, 121]⟩ : ByteArray), (⟨#[112, 114, 111, 99, 101, 115, 115]⟩ : ByteArray), (⟨#[117, 115, 101, 115]⟩ : ByteArray), (⟨#[98, 101, 103, 105, 110]⟩ : ByteArray), (⟨#[101, 110, 100]⟩ : ByteArray), (⟨#[105, 102]⟩ : ByteArray), (⟨#[116, 104, 101, 110]⟩ : ByteArray), (⟨#[101, 108, 115, 101]⟩ : ByteArray), (⟨#[119, 104, 105, 108, 101]⟩ : ByteArray), (⟨#[100, 111]⟩ : ByteArray), (⟨#[99, 97, 108, 108]⟩ : ByteArray), (⟨#[116, 111]⟩ : ByteArray), (⟨#[112, 114, 105, 110, 116]⟩ : ByteArray), (⟨#[114, 101, 97, 100]⟩ : ByteArray), (⟨#[100, 101, 108, 97, 121]⟩ : ByteArray), (⟨#[99, 111, 110, 116, 105, 110, 117, 101]⟩ : ByteArray), (⟨#[115, 107, 105, 112]⟩ : ByteArray), (⟨#[97, 110, 100]⟩ : ByteArray), (⟨#[111, 114]⟩ : ByteArray), (⟨#[110, 111, 116]⟩ : ByteArray)]
def isKey (s : ByteArray) : Bool := decide (s ∈ keyList)

def isLet (c : Int) : Bool := decide (97 ≤ c ∧ c ≤ 122)
def nameP (s : ByteArray) : Bool := decide (1 ≤ s.size ∧ s.size ≤ 8) && (bs s).all isLet && !isKey s

/-- Names right and unlike, values right; pre stands ahead. -/
def pairsOk (pre : List ByteArray) : List ByteArray → List Int → Bool
  | n :: ns, v :: vs => nameP n && decide (vok v) && !decide (n ∈ pre) && pairsOk (pre ++ [n]) ns vs
  | [], _ => true
  | _, [] => true
def envOkP (ns : List ByteArray) (vs : List Int) : Bool := if ns.length = vs.length ∧ ns.length ≤ 8 then pairsOk [] ns vs else false

/-- How many of the first elements pass a test. -/
def runL (p : Int → Bool) : List Int → Nat
  | [] => 0
  | c :: l => if p c = true then runL p l + 1 else 0
theorem runL_le (p : Int → Bool) : ∀ l, runL p l ≤ l.length
  | [] => Nat.le_refl _
  | c :: l => by
    have := runL_le p l
    unfold runL
    split
    · simp
      omega
    · omega
theorem runL_all (p : Int → Bool) : ∀ l, runL p l = l.length ↔ l.all p = true
  | [] => by simp [runL]
  | c :: l => by
    have h := runL_all p l
    unfold runL
    by_cases g : p c = true
    · rw [if_pos g]
      simp [g, h]
    · rw [if_neg g]
      simp [g]

theorem impl_letter_some (c : Int) : impl_letter.f c = some (isLet c) := by
  unfold impl_letter.f isLet
  by_cases g : c ≥ 97
  · rw [if_pos g]
    simp [g]
  · rw [if_neg g]
    have g' : ¬ 97 ≤ c := g
    simp [g']
theorem run_letter_l0 (s : ByteArray) (hs : s.size ≤ 140737488351232) (n : Nat) : ∀ i : Int, 0 ≤ i → i ≤ s.size → (s.size : Int) - i = n → Ev (fun k => impl_run_impl_letter.l0 k s i) (i + runL isLet ((bs s).drop i.toNat)) := by
  induction n with
  | zero =>
    intro i h0 h1 hn
    refine ev_step ?_
    simp only [impl_run_impl_letter.l0]
    rw [bs_end h0 (by omega)]
    exact ev_neg (by omega) (ev_eq (by simp [runL]) (ev_ret _))
  | succ n ih =>
    intro i h0 h1 hn
    refine ev_step ?_
    simp only [impl_run_impl_letter.l0]
    rw [bs_drop h0 (by omega)]
    refine ev_pos (by omega) (ev_pos h0 (ev_bindc (impl_letter_some _) ?_))
    unfold runL
    by_cases g : isLet (bt s i) = true
    · rw [if_pos g, w64 (x := i + 1) (by omega) (by omega)]
      exact ev_pos g (ev_eq (by omega) (ih (i + 1) (by omega) (by omega) (by omega)))
    · rw [if_neg g]
      exact ev_neg g (ev_eq (by simp) (ev_ret _))
theorem run_letter_ev (s : ByteArray) (hs : s.size ≤ 140737488351232) (i : Int) (h0 : 0 ≤ i) (h1 : i ≤ s.size) : Ev (fun k => impl_run_impl_letter.f k s i) (i + runL isLet ((bs s).drop i.toNat)) :=
  run_letter_l0 s hs _ i h0 h1 (Int.toNat_of_nonneg (by omega)).symm

theorem impl_KeyWord_ev (s : ByteArray) : Ev (fun k => impl_KeyWord.f k s) (isKey s) := by
  unfold impl_KeyWord.f
  exact Ev.bind (slices_Contains_ev keyList s (by decide)) (ev_ret _)

theorem impl_NameOk_ev (s : ByteArray) (hs : s.size ≤ 140737488351232) : Ev (fun k => impl_NameOk.f k s) (nameP s) := by
  unfold impl_NameOk.f
  rw [within_some]
  refine ev_bindc rfl ?_
  have hl := bs_length s
  have ha := runL_all isLet (bs s)
  have hr := run_letter_ev s hs 0 (by omega) (by omega)
  simp only [Int.toNat_zero, List.drop_zero, Int.zero_add] at hr
  unfold nameP
  by_cases c : 1 ≤ s.size ∧ s.size ≤ 8
  · refine ev_pos (by simp; omega) (Ev.bind hr ?_)
    by_cases c2 : (bs s).all isLet = true
    · refine ev_pos ?_ (Ev.bind (impl_KeyWord_ev s) (ev_eq ?_ (ev_ret _)))
      · have := ha.2 c2
        omega
      · simp only [c2, Bool.and_true]
        simp [c]
    · refine ev_neg ?_ (ev_eq ?_ (ev_ret _))
      · intro h
        exact c2 (ha.1 (by omega))
      · have c3 : (bs s).all isLet = false := by simpa using c2
        rw [c3]
        simp
  · refine ev_neg (by simp; omega) (ev_eq ?_ (ev_ret _))
    rw [show decide (1 ≤ s.size ∧ s.size ≤ 8) = false by simpa using c]
    rfl

theorem impl_ValOk_some2 (n : Int) : impl_ValOk.f n = some (decide (vok n)) := by
  unfold impl_ValOk.f
  rw [within_some]
  rfl
theorem impl_EnvOk_l0 (ns : List ByteArray) (vs : List Int) (hl : ns.length = vs.length) (h8 : ns.length ≤ 8) (hs : ∀ x ∈ ns, x.size ≤ 1048576) (n : Nat) : ∀ i : Int, 0 ≤ i → (ns.length : Int) - i = n → Ev (fun k => impl_EnvOk.l0 k ns (ns.length : Int) i ns vs) (pairsOk (ns.take i.toNat) (ns.drop i.toNat) (vs.drop i.toNat)) := by
  induction n with
  | zero =>
    intro i h0 hn
    refine ev_step ?_
    simp only [impl_EnvOk.l0]
    rw [drop_end (l := ns) h0 (by omega)]
    unfold pairsOk
    exact ev_neg (by omega) (ev_ret _)
  | succ n ih =>
    intro i h0 hn
    have hz := hs _ (rdOf_mem (d := ByteArray.empty) (l := ns) h0 (by omega))
    refine ev_step ?_
    simp only [impl_EnvOk.l0]
    rw [drop_rd (d := ByteArray.empty) (l := ns) h0 (by omega), drop_rd (d := (0 : Int)) (l := vs) h0 (by omega)]
    unfold pairsOk
    refine ev_pos (by omega) (ev_pos h0 (ev_pos (by omega) (Ev.bind (impl_NameOk_ev _ (by omega)) ?_)))
    by_cases c : nameP (rdOf ByteArray.empty ns i) = true
    · refine ev_pos c (ev_pos (by omega) (Ev.bind (slices_Contains_ev _ _ (by simp; omega)) ?_))
      by_cases c2 : rdOf ByteArray.empty ns i ∈ ns.take i.toNat
      · exact ev_pos (by simpa using c2) (ev_eq (by simp [c2]) (ev_ret _))
      · refine ev_neg (by simpa using c2) (ev_pos (by omega) (ev_bindc (impl_ValOk_some2 _) ?_))
        by_cases c3 : vok (rd vs i)
        · refine ev_pos (by simpa using c3) ?_
          rw [w64 (x := i + 1) (by omega) (by omega)]
          refine ev_eq ?_ (ih (i + 1) (by omega) (by omega))
          have c4 : vok (rdOf 0 vs i) := c3
          rw [take_rd ByteArray.empty h0 (by omega)]
          simp [c, c2, c4]
        · have c4 : ¬ vok (rdOf 0 vs i) := c3
          exact ev_neg (by simpa using c3) (ev_eq (by simp [c4]) (ev_ret _))
    · exact ev_neg c (ev_eq (by simp [c]) (ev_ret _))
theorem impl_EnvOk_ev (ns : List ByteArray) (vs : List Int) (hs : ∀ x ∈ ns, x.size ≤ 1048576) : Ev (fun k => impl_EnvOk.f k ns vs) (envOkP ns vs) := by
  unfold impl_EnvOk.f envOkP
  by_cases c : ns.length = vs.length
  · refine ev_pos (by omega) (ev_step ?_)
    simp only [impl_EnvOk.j0]
    by_cases c2 : ns.length ≤ 8
    · rw [if_pos (show ns.length = vs.length ∧ ns.length ≤ 8 from ⟨c, c2⟩)]
      have h := impl_EnvOk_l0 ns vs c c2 hs ns.length 0 (by omega) (by omega)
      exact ev_neg (by simp; omega) (by simpa using h)
    · rw [if_neg (show ¬ (ns.length = vs.length ∧ ns.length ≤ 8) from fun h => c2 h.2)]
      exact ev_pos (by simp; omega) (ev_ret _)
  · rw [if_neg (show ¬ (ns.length = vs.length ∧ ns.length ≤ 8) from fun h => c h.1)]
    refine ev_neg (by omega) (ev_step ?_)
    simp only [impl_EnvOk.j0]
    exact ev_pos (by simp) (ev_ret _)

theorem spec_KeyWord_l0 (s : ByteArray) (l : List ByteArray) (hl : l.length ≤ 1000) (n : Nat) : ∀ (i : Int), 0 ≤ i → (l.length : Int) - i = n → Ev (fun k => spec_KeyWord.l0 k s l i) (decide (s ∈ l.drop i.toNat)) := by
  induction n with
  | zero =>
    intro i h0 hi
    refine ev_step ?_
    simp only [spec_KeyWord.l0]
    rw [drop_end h0 (by omega)]
    exact ev_neg (by omega) (ev_eq (by simp) (ev_ret _))
  | succ n ih =>
    intro i h0 hi
    refine ev_step ?_
    simp only [spec_KeyWord.l0]
    refine ev_pos (by omega) (ev_pos h0 ?_)
    rw [drop_rd (d := ByteArray.empty) h0 (by omega)]
    by_cases c : (rdOf ByteArray.empty l i).toList = s.toList
    · refine ev_pos c (ev_eq ?_ (ev_ret _))
      rw [toList_eq_iff] at c
      simp [c]
    · refine ev_neg c ?_
      rw [w64 (x := i + 1) (by omega) (by omega)]
      refine ev_eq ?_ (ih (i + 1) (by omega) (by omega))
      rw [toList_eq_iff] at c
      have c' : ¬ s = rdOf ByteArray.empty l i := fun h => c h.symm
      simp [c']
theorem spec_KeyWord_ev (s : ByteArray) : Ev (fun k => spec_KeyWord.f k s) (isKey s) := by
  unfold spec_KeyWord.f spec_l04Keys.f
  exact ev_bindc (a := keyList) rfl (spec_KeyWord_l0 s keyList (by decide) keyList.length 0 (by omega) (by simp))

theorem spec_NameOk_l0 (s : ByteArray) (hs : s.size ≤ 140737488351232) (n : Nat) : ∀ i : Int, 0 ≤ i → (s.size : Int) - i = n → Ev (fun k => spec_NameOk.l0 k s i) (decide (1 ≤ s.size ∧ s.size ≤ 8) && ((bs s).drop i.toNat).all isLet && !isKey s) := by
  induction n with
  | zero =>
    intro i h0 hn
    refine ev_step ?_
    simp only [spec_NameOk.l0]
    rw [bs_end h0 (by omega), l01In_some]
    refine ev_neg (by omega) (ev_bindc rfl ?_)
    by_cases c : 1 ≤ s.size ∧ s.size ≤ 8
    · exact ev_pos (by simp; omega) (Ev.bind (spec_KeyWord_ev s) (ev_eq (by simp [c]) (ev_ret _)))
    · refine ev_neg (by simp; omega) (ev_eq ?_ (ev_ret _))
      rw [show decide (1 ≤ s.size ∧ s.size ≤ 8) = false by simpa using c]
      rfl
  | succ n ih =>
    intro i h0 hn
    refine ev_step ?_
    simp only [spec_NameOk.l0]
    rw [bs_drop h0 (by omega), List.all_cons]
    refine ev_pos (by omega) (ev_pos h0 ?_)
    by_cases c : bt s i < 97
    · refine ev_pos c (ev_eq ?_ (ev_ret _))
      have : isLet (bt s i) = false := by unfold isLet; simp; omega
      simp [this]
    · refine ev_neg c ?_
      by_cases c2 : bt s i > 122
      · refine ev_pos c2 (ev_eq ?_ (ev_ret _))
        have : isLet (bt s i) = false := by unfold isLet; simp; omega
        simp [this]
      · rw [w64 (x := i + 1) (by omega) (by omega)]
        have : isLet (bt s i) = true := by unfold isLet; simp; omega
        rw [this, Bool.true_and]
        exact ev_neg c2 (ih (i + 1) (by omega) (by omega))
theorem spec_NameOk_ev (s : ByteArray) (hs : s.size ≤ 140737488351232) : Ev (fun k => spec_NameOk.f k s) (nameP s) := by
  unfold spec_NameOk.f
  have h := spec_NameOk_l0 s hs s.size 0 (by omega) (by omega)
  simpa [nameP] using h

theorem spec_ValOk_some2 (n : Int) : spec_ValOk.f n = some (decide (vok n)) := by
  unfold spec_ValOk.f
  rw [l01In_some]
  rfl
theorem spec_EnvOk_l0 (ns : List ByteArray) (vs : List Int) (hl : ns.length = vs.length) (h8 : ns.length ≤ 8) (hs : ∀ x ∈ ns, x.size ≤ 1048576) (n : Nat) : ∀ i : Int, 0 ≤ i → (ns.length : Int) - i = n → Ev (fun k => spec_EnvOk.l0 k i ns vs) (pairsOk (ns.take i.toNat) (ns.drop i.toNat) (vs.drop i.toNat)) := by
  induction n with
  | zero =>
    intro i h0 hn
    refine ev_step ?_
    simp only [spec_EnvOk.l0]
    rw [drop_end (l := ns) h0 (by omega)]
    unfold pairsOk
    exact ev_neg (by omega) (ev_ret _)
  | succ n ih =>
    intro i h0 hn
    have hz := hs _ (rdOf_mem (d := ByteArray.empty) (l := ns) h0 (by omega))
    refine ev_step ?_
    simp only [spec_EnvOk.l0]
    rw [drop_rd (d := ByteArray.empty) (l := ns) h0 (by omega), drop_rd (d := (0 : Int)) (l := vs) h0 (by omega)]
    unfold pairsOk
    refine ev_pos (by omega) (ev_pos h0 (Ev.bind (spec_NameOk_ev _ (by omega)) ?_))
    by_cases c : nameP (rdOf ByteArray.empty ns i) = true
    · refine ev_pos c (ev_pos (by omega) (ev_bindc (spec_ValOk_some2 _) ?_))
      by_cases c3 : vok (rd vs i)
      · have c4 : vok (rdOf 0 vs i) := c3
        refine ev_pos (by simpa using c3) (ev_pos (by omega) (Ev.bind (l08In_ev _ _ (by simp; omega)) ?_))
        by_cases c2 : rdOf ByteArray.empty ns i ∈ ns.take i.toNat
        · exact ev_pos (by simpa using c2) (ev_eq (by simp [c2]) (ev_ret _))
        · refine ev_neg (by simpa using c2) ?_
          rw [w64 (x := i + 1) (by omega) (by omega)]
          refine ev_eq ?_ (ih (i + 1) (by omega) (by omega))
          rw [take_rd ByteArray.empty h0 (by omega)]
          simp [c, c2, c4]
      · have c4 : ¬ vok (rdOf 0 vs i) := c3
        exact ev_neg (by simpa using c3) (ev_eq (by simp [c4]) (ev_ret _))
    · exact ev_neg c (ev_eq (by simp [c]) (ev_ret _))
theorem spec_EnvOk_ev (ns : List ByteArray) (vs : List Int) (hs : ∀ x ∈ ns, x.size ≤ 1048576) : Ev (fun k => spec_EnvOk.f k ns vs) (envOkP ns vs) := by
  unfold spec_EnvOk.f envOkP
  by_cases c : ns.length = vs.length
  · refine ev_pos (by omega) (ev_step ?_)
    simp only [spec_EnvOk.j0]
    by_cases c2 : ns.length ≤ 8
    · rw [if_pos (show ns.length = vs.length ∧ ns.length ≤ 8 from ⟨c, c2⟩)]
      have h := spec_EnvOk_l0 ns vs c c2 hs ns.length 0 (by omega) (by omega)
      exact ev_neg (by simp; omega) (by simpa using h)
    · rw [if_neg (show ¬ (ns.length = vs.length ∧ ns.length ≤ 8) from fun h => c2 h.2)]
      exact ev_pos (by simp; omega) (ev_ret _)
  · rw [if_neg (show ¬ (ns.length = vs.length ∧ ns.length ≤ 8) from fun h => c h.1)]
    refine ev_neg (by omega) (ev_step ?_)
    simp only [spec_EnvOk.j0]
    exact ev_pos (by simp) (ev_ret _)

theorem getP_putP (s t : ByteArray) (x : Int) : ∀ (ns : List ByteArray) (vs : List Int), ns.length = vs.length → t ∈ ns → getP t ns (putP s x ns vs) = if t = s then x else getP t ns vs
  | [], _, _, h => by cases h
  | n :: ns, [], h, _ => by simp at h
  | n :: ns, v :: vs, h, hm => by
    have hl : ns.length = vs.length := by simpa using h
    unfold putP
    by_cases c : n = s
    · rw [if_pos c]
      unfold getP
      by_cases c2 : n = t
      · rw [if_pos c2, if_pos (c2.symm.trans c)]
      · rw [if_neg c2, if_neg (fun e => c2 (c.trans e.symm))]
        rw [if_neg c2]
    · rw [if_neg c]
      unfold getP
      by_cases c2 : n = t
      · rw [if_pos c2, if_pos c2, if_neg (fun e => c (c2.trans e))]
      · rw [if_neg c2, if_neg c2]
        rcases List.mem_cons.1 hm with h2 | h2
        · exact absurd h2.symm c2
        · exact getP_putP s t x ns vs hl h2
theorem getP_at (d : ByteArray) : ∀ (ns : List ByteArray) (vs : List Int) (i : Nat), ns.Nodup → ns.length = vs.length → i < ns.length → getP (ns.getD i d) ns vs = vs.getD i 0
  | [], _, _, _, _, h => by simp at h
  | n :: ns, [], _, _, h, _ => by simp at h
  | n :: ns, v :: vs, 0, _, _, _ => by simp [getP]
  | n :: ns, v :: vs, i + 1, hn, hl, hi => by
    have hi' : i < ns.length := by simpa using hi
    have hne : ¬ n = ns.getD i d := by
      intro e
      have h1 := (List.nodup_cons.1 hn).1
      rw [List.getD_eq_getElem?_getD, List.getElem?_eq_getElem hi'] at e
      exact h1 (by rw [e]; exact List.getElem_mem _)
    simp only [List.getD_cons_succ]
    unfold getP
    rw [if_neg hne]
    exact getP_at d ns vs i (List.nodup_cons.1 hn).2 (by simpa using hl) hi'
theorem getP_none (s : ByteArray) : ∀ (ns : List ByteArray) (vs : List Int), s ∉ ns → getP s ns vs = 0
  | [], vs, _ => by simp [getP]
  | n :: ns, [], _ => by simp [getP]
  | n :: ns, v :: vs, h => by
    unfold getP
    rw [if_neg (fun e => h (by rw [e]; exact List.mem_cons_self ..))]
    exact getP_none s ns vs (fun h2 => h (List.mem_cons_of_mem _ h2))
theorem putP_vok (s : ByteArray) (x : Int) (hx : vok x) : ∀ (ns : List ByteArray) (vs : List Int), (∀ v ∈ vs, vok v) → ∀ v ∈ putP s x ns vs, vok v
  | [], vs, h => by simpa [putP] using h
  | n :: ns, [], _ => by simp [putP]
  | n :: ns, v :: vs, h => by
    unfold putP
    by_cases c : n = s
    · rw [if_pos c]
      intro w hw
      rcases List.mem_cons.1 hw with h1 | h1
      · rw [h1]
        exact hx
      · exact h w (List.mem_cons_of_mem _ h1)
    · rw [if_neg c]
      intro w hw
      rcases List.mem_cons.1 hw with h1 | h1
      · rw [h1]
        exact h v (List.mem_cons_self ..)
      · exact putP_vok s x hx ns vs (fun z hz => h z (List.mem_cons_of_mem _ hz)) w h1
theorem pairs_ok : ∀ (ns : List ByteArray) (pre : List ByteArray) (vs : List Int), (∀ x ∈ ns, nameP x = true) → (pre ++ ns).Nodup → (∀ v ∈ vs, vok v) → pairsOk pre ns vs = true
  | [], pre, vs, _, _, _ => by unfold pairsOk; rfl
  | n :: ns, pre, [], _, _, _ => by unfold pairsOk; rfl
  | n :: ns, pre, v :: vs, h1, h2, h3 => by
    unfold pairsOk
    have hn : n ∉ pre := by
      intro hm
      have := List.nodup_append.1 h2
      exact this.2.2 n hm n (List.mem_cons_self ..) rfl
    rw [h1 n (List.mem_cons_self ..), pairs_ok ns (pre ++ [n]) vs (fun x hx => h1 x (List.mem_cons_of_mem _ hx)) (by simpa using h2) (fun w hw => h3 w (List.mem_cons_of_mem _ hw))]
    simp [hn, h3 v (List.mem_cons_self ..)]
theorem names5_ok : ∀ x ∈ names5, nameP x = true := by decide
theorem names5_nodup : names5.Nodup := by decide
theorem env5_ok (n : Nat) (hn : n ≤ 5) (vs : List Int) (hl : vs.length = n) (hv : ∀ v ∈ vs, vok v) : envOkP (names5.take n) vs = true := by
  have h := names5_take n hn
  unfold envOkP
  rw [if_pos ⟨by omega, by omega⟩]
  exact pairs_ok _ [] vs (fun x hx => names5_ok x (List.mem_of_mem_take hx)) (by simpa using names5_nodup.sublist (List.take_sublist ..)) hv
theorem FnEnvs : laws_FnEnvs.Pure := by
  intro l hl hl2 _
  refine Ev.rounds ?_
  have hb : l.length ≤ 140737488351232 := by omega
  unfold laws_FnEnvs.f
  refine ev_bindc (a := decide ((l.length : Int) > 1048576)) rfl ?_
  by_cases c : (l.length : Int) > 1048576
  · exact ev_pos (by simpa using c) (ev_ret _)
  · refine ev_neg (by simpa using c) ?_
    obtain ⟨hh, e0⟩ := l01New_ev l hb
    obtain ⟨n, vs, q1, h1, e1, n1, n5, hvl, hv, _⟩ := l10Env_ev l hb 0 hh (by omega)
    have hE : Ev (fun k => spec_DrawEnv.f k l) (names5.take n, vs) := by
      unfold spec_DrawEnv.f
      exact Ev.bind e0 (Ev.bind e1 (ev_ret _))
    obtain ⟨p, hp, hpl, hpr⟩ := DrawPlaces_ev l hb
    obtain ⟨a, av, q2, h2, e2, a1, a2, a3, p2⟩ := l10Any_ev l hb 0 hh (by omega)
    obtain ⟨b, bv, q3, h3, e3, b1, b2, b3, _⟩ := l10Any_ev l hb q2 h2 p2
    have hT : Ev (fun k => spec_DrawTogether.f k l) (a, av, b, bv) := by
      unfold spec_DrawTogether.f
      exact Ev.bind e0 (Ev.bind e2 (Ev.bind e3 (ev_ret _)))
    have hX : Ev (fun k => spec_DrawEnvOk.f k l) (a, av) := by
      unfold spec_DrawEnvOk.f
      exact Ev.bind e0 (Ev.bind e2 (ev_ret _))
    obtain ⟨s, q4, h4, e4, _, p4⟩ := pick_mem l hb 0 hh [(⟨#[118]⟩ : ByteArray), (⟨#[110]⟩ : ByteArray), (⟨#[114, 101, 115, 117, 108, 116]⟩ : ByteArray), (⟨#[110, 111, 110, 101]⟩ : ByteArray)] (by omega) (by decide) (by decide)
    obtain ⟨y, q5, h5, e5, _, p5⟩ := pickInt_mem l hb q4 h4 [0, 1, 2, 3, (-1), 7, 1000, 1000000, (-1000000), 999999, 1000001, (-9223372036854775808), 9223372036854775807] p4 (by decide) (by decide)
    obtain ⟨d, dv, q6, h6, e6, d1, d2, _, _⟩ := l10Any_ev l hb q5 h5 p5
    have hP : Ev (fun k => spec_DrawPutIn.f k l) (d, dv, s, y) := by
      unfold spec_DrawPutIn.f spec_l03Val.f
      exact Ev.bind e0 (ev_bindc e4 (Ev.bind (ev_bindc e5 (ev_ret _)) (Ev.bind e6 (ev_ret _))))
    obtain ⟨t1, t2⟩ := names5_take n n5
    have ok1 := env5_ok n n5 vs hvl hv
    have hx := hpr _ (rd_mem (l := p) (i := 1) (by omega) (by omega))
    have hxv : vok (rd p 1) := by unfold vok; omega
    have hj := hpr _ (rd_mem (l := p) (i := 0) (by omega) (by omega))
    have nd : (names5.take n).Nodup := names5_nodup.sublist (List.take_sublist ..)
    have hnone : (⟨#[110, 111, 110, 101]⟩ : ByteArray) ∉ names5.take n := fun h => absurd (List.mem_of_mem_take h) (by decide)
    have ok2 : ∀ w, envOkP (names5.take n) (putP w (rd p 1) (names5.take n) vs) = true := fun w => env5_ok n n5 _ (by rw [putP_length]; exact hvl) (putP_vok w _ hxv _ _ hv)
    generalize names5.take n = ns at hE t1 t2 ok1 ok2 nd hnone
    have hj1 : 0 ≤ Int.tmod (rd p 0) (ns.length : Int) := Int.tmod_nonneg _ hj.1
    have hj2 : Int.tmod (rd p 0) (ns.length : Int) < ns.length := Int.tmod_lt_of_pos _ (by omega)
    obtain ⟨w, hw⟩ : ∃ w, rdOf ByteArray.empty ns (Int.tmod (rd p 0) (ns.length : Int)) = w := ⟨_, rfl⟩
    have hput := impl_PutIn_ev ns vs w (rd p 1) (by omega) (by omega)
    unfold putV at hput
    rw [if_pos hxv] at hput
    have ok2w := ok2 w
    have hpl2 := putP_length w (rd p 1) ns vs
    refine Ev.bind hE (Ev.bind hp (ev_pos (show 0 < (p.length : Int) by omega) (ev_neg (show ¬ (ns.length : Int) = 0 by omega) (ev_pos hj1 (ev_pos hj2 (ev_pos (show 1 < (p.length : Int) by omega) ?_))))))
    show Ev (fun k => (impl_PutIn.f k ns vs (rdOf ByteArray.empty ns (Int.tmod (rd p 0) (ns.length : Int))) (rd p 1)).bind fun bt => laws_FnEnvs.l0 k l p (rdOf ByteArray.empty ns (Int.tmod (rd p 0) (ns.length : Int))) 0 ns vs bt.1 bt.2) true
    rw [hw]
    refine Ev.bind hput ?_
    have loop : ∀ (m : Nat) (i : Int), 0 ≤ i → (ns.length : Int) - i = m → Ev (fun k => laws_FnEnvs.l0 k l p w i ns vs ns (putP w (rd p 1) ns vs)) true := by
      intro m
      induction m with
      | zero =>
        intro i h0 hm
        refine ev_step ?_
        simp only [laws_FnEnvs.l0]
        have g1 := tog_length a b bv
        refine ev_neg (by omega) (Ev.bind hT (Ev.bind (impl_Together_ev a av b bv (by omega) (by omega) (by omega)) (Ev.bind hX (Ev.bind hP ?_))))
        refine Ev.bind (impl_EnvOk_ev ns vs (fun x hx => by have := t2 x hx; omega)) (ev_pos ok1 (Ev.bind (impl_EnvOk_ev ns _ (fun x hx => by have := t2 x hx; omega)) (ev_pos ok2w ?_)))
        refine Ev.bind (spec_Together_ev a av b bv (by omega) (by omega) (by omega)) (Ev.bind (sameEnv_ev _ _ (by rw [List.length_append]; omega) (by rw [List.length_append]; omega)) (ev_pos rfl ?_))
        refine Ev.bind (impl_EnvOk_ev a av (fun x hx => by have := a3 x hx; omega)) (Ev.bind (spec_EnvOk_ev a av (fun x hx => by have := a3 x hx; omega)) (ev_pos (by simp) ?_))
        have g2 := putV_length s y d dv
        refine Ev.bind (impl_PutIn_ev d dv s y (by omega) (by omega)) (Ev.bind (spec_PutIn_ev d dv s y (by omega) (by omega)) (Ev.bind (sameEnv_ev d (putV s y d dv) (by omega) (by omega)) (ev_pos rfl (Ev.bind (impl_GetIn_ev ns vs _ (by omega)) (ev_eq ?_ (ev_ret _))))))
        rw [getP_none _ _ _ hnone]
        rfl
      | succ m ih =>
        intro i h0 hm
        refine ev_step ?_
        simp only [laws_FnEnvs.l0]
        have hmem : rdOf ByteArray.empty ns i ∈ ns := rdOf_mem h0 (by omega)
        have next := ih (i + 1) (by omega) (by omega)
        have key := getP_putP w (rdOf ByteArray.empty ns i) (rd p 1) ns vs (by omega) hmem
        rw [w64 (x := i + 1) (by omega) (by omega)]
        refine ev_pos (by omega) (ev_pos h0 (ev_pos (by omega) ?_))
        by_cases c3 : rdOf ByteArray.empty ns i = w
        · rw [if_pos c3] at key
          exact ev_pos (toList_eq_iff.2 c3) (ev_pos (by omega) (Ev.bind (impl_GetIn_ev ns _ _ (by omega)) (ev_pos key next)))
        · rw [if_neg c3] at key
          have at_ : getP (rdOf ByteArray.empty ns i) ns vs = rd vs i := getP_at ByteArray.empty ns vs i.toNat nd (by omega) (by omega)
          exact ev_neg (fun h => c3 (toList_eq_iff.1 h)) (Ev.bind (impl_GetIn_ev ns _ _ (by omega)) (ev_pos (key.trans at_) next))
    exact loop ns.length 0 (by omega) (by omega)

end Go.Proofs.Ytegeahiflkjhmaa.Pure
