/- A drawn number comes back from VarText and from Decimal, a drawn text from ShortText and Hex. No condition beyond the law's own bound and the variables that the row lists. -/
import Derived.Test.YtmbkcbgbienjoaaDoorPFnNumbersx6
set_option linter.unusedVariables false
set_option linter.unusedSimpArgs false
namespace Go.Proofs.YtmbkcbgbienjoaaDoor.Pure
open Go.RowKit Go.Proofs.YtmbkcbgbienjoaaDoor.PFnNumbers Go.Proofs.YtmbkcbgbienjoaaDoorW.PrintWords Go.Proofs.YtmbkcbgbienjoaaDoorW.PrintLast Go.Proofs.YtmbkcbgbienjoaaDoorW.PrintMore

theorem w64 {x : Int} (h0 : -9223372036854775808 ≤ x) (h1 : x ≤ 9223372036854775807) : wrap64 x = x := by
  unfold wrap64
  omega
theorem wf_i64 {x : Int} (h : (Lit.int .i64 x).wf = true) : -9223372036854775808 ≤ x ∧ x ≤ 9223372036854775807 := by
  simp [Lit.wf, IntKind.min, IntKind.max, IntKind.signed, IntKind.bits] at h
  omega

instance lawBA : LawfulBEq ByteArray where
  eq_of_beq {a b} h := by
    cases a
    cases b
    congr 1
    exact eq_of_beq (α := Array UInt8) h
  rfl {a} := by
    cases a
    exact BEq.rfl (α := Array UInt8)

/-! Rounds -/
theorem ev_step {α : Type} {g : Nat → Option α} {r : α} (h : Ev (fun k => g (k + 1)) r) : Ev g r := Ev.step (fun _ => rfl) h
theorem ev_ret {α : Type} (r : α) : Ev (fun _ => some r) r := ⟨0, fun _ _ => rfl⟩
theorem ev_pos {α : Type} {c : Prop} [Decidable c] {g f : Nat → Option α} {r : α} (h : c) (k : Ev g r) : Ev (fun n => if c then g n else f n) r :=
  Ev.congr (fun _ => if_pos h) k
theorem ev_neg {α : Type} {c : Prop} [Decidable c] {g f : Nat → Option α} {r : α} (h : ¬ c) (k : Ev f r) : Ev (fun n => if c then g n else f n) r :=
  Ev.congr (fun _ => if_neg h) k
theorem ev_bindc {α β : Type} {x : Option α} {f : Nat → α → Option β} {a : α} {r : β} (h : x = some a) (k : Ev (fun n => f n a) r) : Ev (fun n => x.bind (f n)) r := by
  subst h
  exact k
theorem ev_rpos {α : Type} {c : Prop} [Decidable c] {g : Nat → Option α} {a b : α} (h : c) (k : Ev g a) : Ev g (if c then a else b) := by
  rw [if_pos h]
  exact k
theorem ev_rneg {α : Type} {c : Prop} [Decidable c] {g : Nat → Option α} {a b : α} (h : ¬ c) (k : Ev g b) : Ev g (if c then a else b) := by
  rw [if_neg h]
  exact k
theorem ev_eq {α : Type} {g : Nat → Option α} {r r' : α} (h : r = r') (k : Ev g r) : Ev g r' := h ▸ k

/-! Lists and texts as lists of numbers -/
def bs (s : ByteArray) : List Int := s.data.toList.map fun c => (c.toNat : Int)
theorem bs_length (s : ByteArray) : (bs s).length = s.size := by
  unfold bs
  rw [List.length_map, Array.length_toList]
  rfl
theorem bs_range {s : ByteArray} {x : Int} (h : x ∈ bs s) : 0 ≤ x ∧ x < 256 := by
  unfold bs at h
  obtain ⟨c, _, rfl⟩ := List.mem_map.1 h
  have := c.toNat_lt
  omega
theorem bs_inj {a b : ByteArray} (h : bs a = bs b) : a = b := by
  have h2 : a.data.toList = b.data.toList := by
    have h3 := congrArg (List.map fun n : Int => UInt8.ofNat n.toNat) h
    unfold bs at h3
    rw [List.map_map, List.map_map] at h3
    have e : ∀ l : List UInt8, l.map ((fun n : Int => UInt8.ofNat n.toNat) ∘ fun c => (c.toNat : Int)) = l := by
      intro l
      induction l with
      | nil => rfl
      | cons c l ih =>
        rw [List.map_cons, ih]
        simp
    rwa [e, e] at h3
  cases a
  cases b
  congr 1
  exact Array.toList_inj.1 h2
theorem toList_eq_iff {a b : ByteArray} : a.toList = b.toList ↔ a = b := by
  constructor
  · intro h
    rw [ByteArray.toList_eq, ByteArray.toList_eq] at h
    cases a
    cases b
    congr 1
    exact Array.toList_inj.1 h
  · rintro rfl
    rfl
theorem drop_rd {α : Type} {d : α} {l : List α} {i : Int} (h0 : 0 ≤ i) (h1 : i < l.length) : l.drop i.toNat = rdOf d l i :: l.drop (i + 1).toNat := by
  have h2 : i.toNat < l.length := by omega
  rw [List.drop_eq_getElem_cons h2]
  unfold rdOf
  rw [List.getD_eq_getElem?_getD, List.getElem?_eq_getElem h2, show (i + 1).toNat = i.toNat + 1 by omega]
  rfl
theorem drop_end {α : Type} {l : List α} {i : Int} (h0 : 0 ≤ i) (h1 : ¬ i < l.length) : l.drop i.toNat = [] := List.drop_eq_nil_of_le (by omega)
theorem bs_rd {s : ByteArray} {i : Int} (h0 : 0 ≤ i) (h1 : i < s.size) : rdOf 0 (bs s) i = bt s i := by
  have h2 : i.toNat < s.size := by omega
  have h3 : i.toNat < s.data.toList.length := by
    rw [Array.length_toList]
    exact h2
  unfold rdOf bs bt
  rw [List.getD_eq_getElem?_getD, List.getElem?_map, List.getElem?_eq_getElem h3, dif_pos h2]
  rfl
theorem bs_drop {s : ByteArray} {i : Int} (h0 : 0 ≤ i) (h1 : i < s.size) : (bs s).drop i.toNat = bt s i :: (bs s).drop (i + 1).toNat := by
  rw [drop_rd (d := 0) h0 (by rw [bs_length]; exact h1), bs_rd h0 h1]
theorem bs_end {s : ByteArray} {i : Int} (h0 : 0 ≤ i) (h1 : ¬ i < s.size) : (bs s).drop i.toNat = [] := drop_end h0 (by rw [bs_length]; exact h1)
theorem strOf_bs (s : ByteArray) : strOfNums (bs s) = s := by
  have e : (bs s).map (fun n => UInt8.ofNat n.toNat) = s.data.toList := by
    unfold bs
    rw [List.map_map]
    conv => rhs; rw [← List.map_id s.data.toList]
    exact List.map_congr_left fun c _ => by simp
  unfold strOfNums
  rw [e]
theorem bs_strOf {l : List Int} (h : ∀ x ∈ l, 0 ≤ x ∧ x < 256) : bs (strOfNums l) = l := by
  unfold bs strOfNums
  rw [List.map_map]
  conv => rhs; rw [← List.map_id l]
  refine List.map_congr_left fun x hx => ?_
  obtain ⟨h0, h1⟩ := h x hx
  simp only [Function.comp_apply, UInt8.toNat_ofNat', id_eq]
  omega
theorem bs_append (a b : ByteArray) : bs (a ++ b) = bs a ++ bs b := by simp [bs]
theorem strOf_append (a b : List Int) : strOfNums (a ++ b) = strOfNums a ++ strOfNums b := by
  cases h : strOfNums a ++ strOfNums b
  rename_i d
  have := congrArg ByteArray.data h
  simp only [ByteArray.data_append] at this
  unfold strOfNums at this ⊢
  simp only [← this]
  simp
theorem ev_id {α : Type} {g : Nat → Option α} {r : α} (h : ∀ k, g k = some r) : Ev g r := ⟨0, fun k _ => h k⟩

theorem ev_ite {α : Type} {c : Prop} [Decidable c] {g f : Nat → Option α} {r : α} (h : c → Ev g r) (h' : ¬ c → Ev f r) : Ev (fun n => if c then g n else f n) r :=
  if hc : c then ev_pos hc (h hc) else ev_neg hc (h' hc)

def valL (acc : Nat) (l : List UInt8) : Nat := l.foldl (fun a c => a * 10 + (c.toNat - 48)) acc
def digC (c : UInt8) : Bool := decide (48 ≤ c.toNat ∧ c.toNat ≤ 57)
theorem dig_toNat (v : Nat) (h : v < 10) : (UInt8.ofNat (48 + v)).toNat = 48 + v := by
  rw [UInt8.toNat_ofNat']
  omega
theorem dd_step {u : Nat} (h : ¬ u < 10) : Go.Lib.decDigits u = Go.Lib.decDigits (u / 10) ++ [UInt8.ofNat (48 + u % 10)] := by
  rw [Go.Lib.decDigits, dif_neg h]
theorem dd_facts (u : Nat) : (Go.Lib.decDigits u).all digC = true ∧ valL 0 (Go.Lib.decDigits u) = u := by
  induction u using Nat.strongRecOn with
  | _ u ih =>
    by_cases h : u < 10
    · rw [Go.Lib.decDigits_one h]
      have e := dig_toNat u h
      refine ⟨?_, ?_⟩
      · rw [List.all_cons, List.all_nil, Bool.and_true]
        exact decide_eq_true (by omega)
      · show 0 * 10 + ((UInt8.ofNat (48 + u)).toNat - 48) = u
        omega
    · obtain ⟨h1, h2⟩ := ih (u / 10) (by omega)
      have e := dig_toNat (u % 10) (by omega)
      rw [dd_step h]
      refine ⟨?_, ?_⟩
      · rw [List.all_append, h1, List.all_cons, List.all_nil, Bool.and_true, Bool.true_and]
        exact decide_eq_true (by omega)
      · unfold valL at h2 ⊢
        rw [List.foldl_append, h2]
        show u / 10 * 10 + ((UInt8.ofNat (48 + u % 10)).toNat - 48) = u
        omega
theorem dd_len (d : Nat) : ∀ u : Nat, u < 10 ^ (d + 1) → (Go.Lib.decDigits u).length ≤ d + 1 := by
  induction d with
  | zero =>
    intro u h
    rw [Go.Lib.decDigits_one (by omega)]
    simp
  | succ d ih =>
    intro u h
    by_cases c : u < 10
    · rw [Go.Lib.decDigits_one c]
      simp
    · rw [Nat.pow_succ] at h
      rw [dd_step c, List.length_append]
      have := ih (u / 10) (by omega)
      simp
      omega
theorem dd_ne (u : Nat) : Go.Lib.decDigits u ≠ [] := by
  by_cases c : u < 10
  · rw [Go.Lib.decDigits_one c]
    simp
  · rw [dd_step c]
    simp
theorem valL_le (l : List UInt8) : ∀ acc, acc ≤ valL acc l := by
  induction l with
  | nil => intro acc; exact Nat.le_refl _
  | cons c l ih =>
    intro acc
    have := ih (acc * 10 + (c.toNat - 48))
    show acc ≤ valL (acc * 10 + (c.toNat - 48)) l
    omega
theorem parse_val (l : List UInt8) : ∀ acc, l.all digC = true → valL acc l < 1844674407370955162 → Go.Lib.parseUint10 acc l = .ok (valL acc l) := by
  induction l with
  | nil => intro acc _ _; rfl
  | cons c l ih =>
    intro acc h hv
    rw [List.all_cons, Bool.and_eq_true] at h
    have hc := of_decide_eq_true h.1
    have hv : valL (acc * 10 + (c.toNat - 48)) l < 1844674407370955162 := hv
    have hle := valL_le l (acc * 10 + (c.toNat - 48))
    unfold Go.Lib.parseUint10
    rw [if_pos hc, if_neg (by omega), if_neg (by omega)]
    exact ih _ h.2 hv
theorem atoi_dd (u : Nat) (h : u < 1844674407370955162) : Go.Lib.atoiAll (Go.Lib.decDigits u) = .ok (u : Int) := by
  obtain ⟨h1, h2⟩ := dd_facts u
  have hne := dd_ne u
  generalize Go.Lib.decDigits u = l at h1 h2 hne
  cases l with
  | nil => exact absurd rfl hne
  | cons c r =>
    have hc : digC c = true := by
      rw [List.all_cons, Bool.and_eq_true] at h1
      exact h1.1
    have hc := of_decide_eq_true hc
    have hm : Go.Lib.parseMag (c :: r) = .ok u := by
      unfold Go.Lib.parseMag
      rw [if_neg hne, parse_val _ 0 h1 (by rw [h2]; exact h), h2]
    unfold Go.Lib.atoiAll
    dsimp only
    rw [if_neg (show ¬ (c.toNat = 43 ∨ c.toNat = 45) by omega), hm]
    dsimp only
    rw [if_neg (by omega), if_neg (by omega), if_neg (by omega)]
/-- The text of a number. -/
def numT (n : Int) : ByteArray := ⟨(Go.Lib.itoa n).toArray⟩
theorem numT_list (n : Int) : (numT n).data.toList = Go.Lib.itoa n := rfl
theorem itoa_pos (n : Int) (h : 0 ≤ n) : Go.Lib.itoa n = Go.Lib.decDigits n.toNat := by
  unfold Go.Lib.itoa
  rw [if_neg (by omega)]

abbrev tl (s : ByteArray) : List UInt8 := s.data.toList
theorem tl_length (s : ByteArray) : (tl s).length = s.size := by
  show s.data.toList.length = s.size
  rw [Array.length_toList]
  rfl
theorem bt_u8 {s : ByteArray} {i : Int} (h0 : 0 ≤ i) (h1 : i < s.size) : bt s i = ((rdOf (0 : UInt8) (tl s) i).toNat : Int) := by
  have hl := tl_length s
  have h2 : i.toNat < (tl s).length := by omega
  rw [← bs_rd h0 h1]
  show (List.map _ (tl s)).getD i.toNat 0 = _
  rw [List.getD_eq_getElem?_getD, List.getElem?_map, List.getElem?_eq_getElem h2]
  unfold rdOf
  rw [List.getD_eq_getElem?_getD, List.getElem?_eq_getElem h2]
  rfl

def isNum (s : ByteArray) (n : Int) : Prop := s = numT n ∧ 0 ≤ n ∧ n ≤ 1000000000
theorem num_facts {s : ByteArray} {n : Int} (h : isNum s n) : Lib.atoiAll (tl s) = .ok n ∧ s.size ≤ 10 ∧ (tl s).all digC = true ∧ valL 0 (tl s) = n.toNat := by
  obtain ⟨rfl, h0, h1⟩ := h
  have e : tl (numT n) = Go.Lib.decDigits n.toNat := (numT_list n).trans (itoa_pos n h0)
  have hf := dd_facts n.toNat
  have hl := tl_length (numT n)
  rw [e] at hl
  have h2 := dd_len 9 n.toNat (by omega)
  refine ⟨?_, by omega, by rw [e]; exact hf.1, by rw [e]; exact hf.2⟩
  rw [e, atoi_dd n.toNat (by omega), show ((n.toNat : Nat) : Int) = n by omega]
theorem numV_pos {s : ByteArray} {n : Int} (h : isNum s n) : numV s = (n, true) := by
  unfold numV
  rw [show Lib.atoiAll s.data.toList = .ok n from (num_facts h).1]
  exact if_pos ⟨h.1.symm, h.2⟩
theorem numV_neg {s : ByteArray} (h : ∀ n, ¬ isNum s n) : numV s = (0, false) := by
  unfold numV
  split
  · rename_i v _
    exact if_neg (fun q => h v ⟨q.1.symm, q.2⟩)
  · rfl
def finN (s : ByteArray) (n : Nat) : Int × Bool := if (n : Int) > 1000000000 then (0, false) else if (numT n).toList = s.toList then ((n : Int), true) else (0, false)
def specV (s : ByteArray) : Int × Bool := if (s.size : Int) > 10 then (0, false) else if (tl s).all digC = true then finN s (valL 0 (tl s)) else (0, false)
theorem specV_pos {s : ByteArray} {n : Int} (h : isNum s n) : specV s = (n, true) := by
  obtain ⟨_, h2, h3, h4⟩ := num_facts h
  obtain ⟨h5, h0, h1⟩ := h
  unfold specV finN
  rw [if_neg (by omega), if_pos h3, h4, if_neg (by omega), show ((n.toNat : Nat) : Int) = n by omega, if_pos (toList_eq_iff.2 h5.symm)]
theorem specV_neg {s : ByteArray} (h : ∀ n, ¬ isNum s n) : specV s = (0, false) := by
  unfold specV finN
  split
  · rfl
  · split
    · split
      · rfl
      · split
        · rename_i g e
          exact absurd ⟨(toList_eq_iff.1 e).symm, by omega, by omega⟩ (h _)
        · rfl
    · rfl
theorem specV_eq (s : ByteArray) : specV s = numV s := by
  by_cases h : ∃ n, isNum s n
  · obtain ⟨n, hn⟩ := h
    rw [specV_pos hn, numV_pos hn]
  · have h2 : ∀ n, ¬ isNum s n := fun n hn => h ⟨n, hn⟩
    rw [specV_neg h2, numV_neg h2]

/-! The cursor that draws: what matters is that it answers, and in which range. -/
theorem and255 (x : Int) : 0 ≤ Go.bits .and .i64 x 255 ∧ Go.bits .and .i64 x 255 ≤ 255 := by
  have h1 : (BitVec.ofInt 64 x &&& BitVec.ofInt 64 255).toNat ≤ 255 := by
    rw [BitVec.toNat_and]
    exact Nat.le_trans Nat.and_le_right (by decide)
  have h2 : Go.bits .and .i64 x 255 = IntKind.i64.wrap (((BitVec.ofInt 64 x &&& BitVec.ofInt 64 255).toNat : Nat) : Int) := rfl
  rw [h2, IntKind.wrap_i64]
  omega
theorem l01New_l0 (b : List Int) (hb : b.length ≤ 140737488351232) (n : Nat) : ∀ (h i : Int), 0 ≤ i → (b.length : Int) - i ≤ n → ∃ h', Ev (fun k => spec_l01New.l0 k b h i) (b, 0, h') := by
  induction n with
  | zero =>
    intro h i h0 hi
    refine ⟨h, ev_step ?_⟩
    simp only [spec_l01New.l0]
    exact ev_neg (by omega) (ev_ret _)
  | succ n ih =>
    intro h i h0 hi
    by_cases c : i < (b.length : Int)
    · by_cases c2 : i < 4000
      · obtain ⟨h', hh⟩ := ih (Go.bits .and .i64 (wrap64 ((wrap64 ((wrap64 (h * 131)) + (wrap64 (rd b i)))) + 7)) 1073741823) (i + 1) (by omega) (by omega)
        refine ⟨h', ev_step ?_⟩
        simp only [spec_l01New.l0]
        refine ev_pos c (ev_pos c2 (ev_pos h0 ?_))
        rw [w64 (x := i + 1) (by omega) (by omega)]
        exact hh
      · refine ⟨h, ev_step ?_⟩
        simp only [spec_l01New.l0]
        exact ev_pos c (ev_neg c2 (ev_ret _))
    · refine ⟨h, ev_step ?_⟩
      simp only [spec_l01New.l0]
      exact ev_neg c (ev_ret _)
theorem l01New_ev (b : List Int) (hb : b.length ≤ 140737488351232) : ∃ h, Ev (fun k => spec_l01New.f k b) (b, 0, h) := by
  unfold spec_l01New.f
  exact l01New_l0 b hb b.length _ 0 (by omega) (by omega)
theorem l01Byte_some (b : List Int) (hb : b.length ≤ 140737488351232) (i h : Int) (h0 : 0 ≤ i) : ∃ x i' h', spec_l01Byte.f b i h = some (x, i', h') ∧ 0 ≤ x ∧ x ≤ 255 ∧ 0 ≤ i' := by
  unfold spec_l01Byte.f
  by_cases c : i < (b.length : Int)
  · rw [if_pos c, if_pos h0]
    refine ⟨_, _, _, rfl, (and255 _).1, (and255 _).2, ?_⟩
    rw [w64 (by omega) (by omega)]
    omega
  · rw [if_neg c]
    exact ⟨_, _, _, rfl, (and255 _).1, (and255 _).2, h0⟩
theorem l01Below_some (b : List Int) (hb : b.length ≤ 140737488351232) (i h n : Int) (h0 : 0 ≤ i) (hn : 0 < n) (hn2 : n ≤ 4294967296) : ∃ x i' h', spec_l01Below.f b i h n = some (x, i', h') ∧ 0 ≤ x ∧ x < n ∧ 0 ≤ i' := by
  unfold spec_l01Below.f
  rw [if_neg (by omega)]
  by_cases c : n ≤ 256
  · obtain ⟨x, i', h', e, x0, x1, q0⟩ := l01Byte_some b hb i h h0
    rw [if_pos c, e]
    simp only [Option.bind_some]
    rw [if_neg (by omega), Int.tmod_eq_emod_of_nonneg x0]
    exact ⟨_, _, _, rfl, Int.emod_nonneg _ (by omega), Int.emod_lt_of_pos _ hn, q0⟩
  · obtain ⟨x, i1, h1, e1, x0, x1, q1⟩ := l01Byte_some b hb i h h0
    obtain ⟨y, i2, h2, e2, y0, y1, q2⟩ := l01Byte_some b hb i1 h1 q1
    obtain ⟨z, i3, h3, e3, z0, z1, q3⟩ := l01Byte_some b hb i2 h2 q2
    obtain ⟨u, i4, h4, e4, u0, u1, q4⟩ := l01Byte_some b hb i3 h3 q3
    rw [if_neg c, e1]
    simp only [Option.bind_some]
    rw [e2]
    simp only [Option.bind_some]
    rw [e3]
    simp only [Option.bind_some]
    rw [e4]
    simp only [Option.bind_some]
    rw [if_neg (by omega), w64 (x := x * 16777216) (by omega) (by omega), w64 (x := y * 65536) (by omega) (by omega), w64 (x := x * 16777216 + y * 65536) (by omega) (by omega), w64 (x := z * 256) (by omega) (by omega),
      w64 (x := x * 16777216 + y * 65536 + z * 256) (by omega) (by omega), w64 (x := x * 16777216 + y * 65536 + z * 256 + u) (by omega) (by omega), Int.tmod_eq_emod_of_nonneg (by omega)]
    exact ⟨_, _, _, rfl, Int.emod_nonneg _ (by omega), Int.emod_lt_of_pos _ hn, q4⟩

theorem l01PickInt_some (b : List Int) (hb : b.length ≤ 140737488351232) (i h : Int) (l : List Int) (h0 : 0 ≤ i) (hl : 0 < l.length) (hl2 : l.length ≤ 1000) : ∃ x i' h', spec_l01PickInt.f b i h l = some (x, i', h') ∧ 0 ≤ i' := by
  unfold spec_l01PickInt.f
  obtain ⟨x, i', h', e, x0, x1, q⟩ := l01Below_some b hb i h l.length h0 (by omega) (by omega)
  rw [e]
  simp only [Option.bind_some]
  rw [if_pos x0, if_pos x1]
  exact ⟨_, _, _, rfl, q⟩

/-- The bytes of a number's text; d tells how many more there may be. -/
def varL : Nat → Int → List Int
  | 0, n => [n]
  | d + 1, n => if n > 127 then (n % 128 + 128) :: varL d (n / 128) else [n]
def var5 (n : Int) : List Int := varL 4 n
theorem varL_byte (d : Nat) : ∀ {n : Int}, 0 ≤ n → n < 128 * 128 ^ d → ∀ x ∈ varL d n, 0 ≤ x ∧ x < 256 := by
  induction d with
  | zero =>
    intro n h0 h1 x hx
    simp only [varL, List.mem_singleton] at hx
    omega
  | succ d ih =>
    intro n h0 h1 x hx
    unfold varL at hx
    by_cases c : n > 127
    · rw [if_pos c] at hx
      rcases List.mem_cons.1 hx with hx | hx
      · omega
      · refine ih (n := n / 128) (by omega) ?_ x hx
        rw [Int.pow_succ] at h1
        omega
    · rw [if_neg c, List.mem_singleton] at hx
      omega

theorem bs_extract (s : ByteArray) (a b : Nat) : bs (s.extract a b) = ((bs s).drop a).take (b - a) := by
  unfold bs
  rw [ByteArray.data_extract, Array.toList_extract, ← List.map_drop, ← List.map_take]

/-- The bytes up to the first below 128, d at most. -/
def prefixV : Nat → List Int → Option (List Int)
  | 0, _ => none
  | _ + 1, [] => none
  | d + 1, c :: l => if c < 128 then some [c] else (prefixV d l).map fun L => c :: L
def valV : List Int → Int
  | [] => 0
  | c :: l => c % 128 + 128 * valV l
def outR (p : Int) : Option (List Int) → Int × Int × Bool
  | none => (0, 0, false)
  | some T => if valV T ≤ 1000000000 ∧ (var5 (valV T)).length = T.length then (valV T, p + T.length, true) else (0, 0, false)
def readV (s : ByteArray) (p : Int) : Int × Int × Bool := if 0 ≤ p ∧ p ≤ s.size then outR p (prefixV 5 ((bs s).drop p.toNat)) else (0, 0, false)
theorem valV_nonneg : ∀ l : List Int, 0 ≤ valV l
  | [] => by simp [valV]
  | c :: l => by
    have := valV_nonneg l
    unfold valV
    omega
theorem valV_lt : ∀ l : List Int, valV l < 128 ^ l.length
  | [] => by simp [valV]
  | c :: l => by
    have := valV_lt l
    unfold valV
    rw [List.length_cons, Int.pow_succ]
    omega
theorem valV_append (P L : List Int) : valV (P ++ L) = valV P + 128 ^ P.length * valV L := by
  induction P with
  | nil => simp [valV]
  | cons c P ih =>
    have e : ∀ l : List Int, valV (c :: l) = c % 128 + 128 * valV l := fun _ => rfl
    rw [List.cons_append, List.length_cons, e, e, ih, show (128 : Int) ^ (P.length + 1) * valV L = 128 * (128 ^ P.length * valV L) by rw [Int.pow_succ, Int.mul_comm (128 ^ P.length) 128, Int.mul_assoc]]
    omega
theorem canon (P : List Int) : ∀ (b : Int) (d : Nat), (∀ c ∈ P, 128 ≤ c ∧ c < 256) → 0 ≤ b → b < 128 → P.length ≤ d → ((varL d (valV (P ++ [b]))).length = P.length + 1 ↔ varL d (valV (P ++ [b])) = P ++ [b]) := by
  induction P with
  | nil =>
    intro b d _ h0 h1 _
    have e : varL d (valV ([] ++ [b])) = [b] := by
      simp only [List.nil_append, valV]
      rw [Int.emod_eq_of_lt h0 h1]
      cases d with
      | zero => simp [varL]
      | succ d =>
        simp only [varL]
        rw [if_neg (by omega)]
        simp
    rw [e]
    simp
  | cons c P ih =>
    intro b d hP h0 h1 hd
    obtain ⟨e, rfl⟩ : ∃ e, d = e + 1 := ⟨d - 1, by simp at hd; omega⟩
    have hc := hP c (by simp)
    have ih2 := ih b e (fun x hx => hP x (by simp [hx])) h0 h1 (by simp at hd; omega)
    have hv := valV_nonneg (P ++ [b])
    rw [List.cons_append, show valV (c :: (P ++ [b])) = c % 128 + 128 * valV (P ++ [b]) from rfl]
    unfold varL
    by_cases g : c % 128 + 128 * valV (P ++ [b]) > 127
    · rw [if_pos g, show (c % 128 + 128 * valV (P ++ [b])) % 128 + 128 = c by omega, show (c % 128 + 128 * valV (P ++ [b])) / 128 = valV (P ++ [b]) by omega]
      simp only [List.length_cons, List.cons.injEq, true_and, Nat.add_right_cancel_iff]
      exact ih2
    · rw [if_neg g]
      have : (P ++ [b]).length = P.length + 1 := by simp
      simp
theorem shl7 (x : Int) (i : Nat) (hi : i ≤ 4) (h0 : 0 ≤ x) (h1 : x < 128) : shl .i64 x (7 * i) = x * 128 ^ i := by
  have hcase : i = 0 ∨ i = 1 ∨ i = 2 ∨ i = 3 ∨ i = 4 := by omega
  have hw : ∀ y : Int, -9223372036854775808 ≤ y → y ≤ 9223372036854775807 → IntKind.i64.wrap y = y := fun y a b => by
    rw [IntKind.wrap_i64]
    omega
  rcases hcase with rfl | rfl | rfl | rfl | rfl
  · show IntKind.i64.wrap (x * 1) = x * 1
    exact hw _ (by omega) (by omega)
  · show IntKind.i64.wrap (x * 128) = x * 128
    exact hw _ (by omega) (by omega)
  · show IntKind.i64.wrap (x * 16384) = x * 16384
    exact hw _ (by omega) (by omega)
  · show IntKind.i64.wrap (x * 2097152) = x * 2097152
    exact hw _ (by omega) (by omega)
  · show IntKind.i64.wrap (x * 268435456) = x * 268435456
    exact hw _ (by omega) (by omega)

theorem within_some (n lo hi : Int) : impl_within.f n lo hi = some (decide (lo ≤ n ∧ n ≤ hi)) := by
  unfold impl_within.f
  by_cases c : n ≥ lo
  · rw [if_pos c]
    simp [c]
  · rw [if_neg c]
    have c' : ¬ lo ≤ n := c
    simp [c']

theorem impl_VarText_l0 (d : Nat) : ∀ (n : Int) (o : List Int), 0 ≤ n → n < 128 * 128 ^ d → o.length + d < 1000 → n ≤ 9223372036854775807 → Ev (fun k => impl_VarText.l0 k n o) (strOfNums (o ++ varL d n), true) := by
  induction d with
  | zero =>
    intro n o h0 h1 ho hm
    refine ev_step ?_
    simp only [impl_VarText.l0]
    refine ev_neg (by omega) (ev_pos (by omega) (ev_eq ?_ (ev_ret _)))
    rw [Int.emod_eq_of_lt h0 (by omega)]
    rfl
  | succ d ih =>
    intro n o h0 h1 ho hm
    refine ev_step ?_
    simp only [impl_VarText.l0]
    unfold varL
    by_cases c : n > 127
    · rw [if_pos c]
      refine ev_pos c (ev_pos (by omega) ?_)
      rw [Int.tdiv_eq_ediv_of_nonneg h0, Int.tmod_eq_emod_of_nonneg h0, w64 (x := n / 128) (by omega) (by omega), w64 (x := n % 128 + 128) (by omega) (by omega), Int.emod_eq_of_lt (a := n % 128 + 128) (by omega) (by omega)]
      rw [Int.pow_succ] at h1
      refine ev_eq ?_ (ih (n / 128) (o ++ [n % 128 + 128]) (by omega) (by omega) (by simp; omega) (by omega))
      simp
    · rw [if_neg c]
      refine ev_neg c (ev_pos (by omega) (ev_eq ?_ (ev_ret _)))
      rw [Int.emod_eq_of_lt h0 (by omega)]
theorem impl_VarText_ev {n : Int} (h0 : 0 ≤ n) (h1 : n ≤ 1000000000) : Ev (fun k => impl_VarText.f k n) (strOfNums (var5 n), true) := by
  unfold impl_VarText.f var5
  rw [within_some]
  refine ev_bindc rfl (ev_pos (by simp [h0, h1]) ?_)
  exact impl_VarText_l0 4 n [] h0 (by omega) (by simp) (by omega)
theorem impl_VarText_no {n : Int} (h : ¬ (0 ≤ n ∧ n ≤ 1000000000)) : Ev (fun k => impl_VarText.f k n) ((⟨#[]⟩ : ByteArray), false) := by
  unfold impl_VarText.f
  rw [within_some]
  exact ev_bindc rfl (ev_neg (by simpa using h) (ev_ret _))

theorem impl_ReadVar_l0 (s : ByteArray) (hs : s.size ≤ 140737488351232) (p : Int) (hp : 0 ≤ p) (hp2 : p ≤ s.size) (d : Nat) : ∀ (i : Nat) (P : List Int), i + d = 5 → P.length = i → (p + i ≤ s.size) →
    Ev (fun k => impl_ReadVar.l0 k s p (valV P) i) (outR p ((prefixV d ((bs s).drop (p + i).toNat)).map fun L => P ++ L)) := by
  induction d with
  | zero =>
    intro i P hi hP hl
    refine ev_step ?_
    simp only [impl_ReadVar.l0]
    refine ev_neg (by omega) (ev_step ?_)
    simp only [impl_ReadVar.j1]
    exact ev_neg (by simp) (ev_ret _)
  | succ d ih =>
    intro i P hi hP hl
    refine ev_step ?_
    simp only [impl_ReadVar.l0]
    refine ev_pos (by omega) (ev_step ?_)
    simp only [impl_ReadVar.j1]
    rw [w64 (x := p + (i : Int)) (by omega) (by omega)]
    by_cases c : p + i < s.size
    · refine ev_pos (by simpa using c) (ev_pos (by omega) (ev_pos c ?_))
      rw [w64 (x := 7 * (i : Int)) (by omega) (by omega)]
      refine ev_pos (by omega) ?_
      have hb := bt_range s (p + i)
      rw [bs_drop (by omega) c]
      generalize bt s (p + i) = b at hb ⊢
      rw [w64 (x := b) (by omega) (by omega), Int.tmod_eq_emod_of_nonneg hb.1, shl7 _ i (by omega) (by omega) (by omega)]
      have hv := valV_nonneg P
      have hv2 := valV_lt P
      have hap : valV (P ++ [b]) = valV P + b % 128 * 128 ^ i := by
        rw [valV_append, hP, Int.mul_comm]
        simp [valV]
      have hap1 := valV_lt (P ++ [b])
      have hap0 := valV_nonneg (P ++ [b])
      have hlen : (P ++ [b]).length = i + 1 := by simp [hP]
      have hpow : (128 : Int) ^ (P ++ [b]).length ≤ 34359738368 := by
        rw [hlen]
        have hcase : i = 0 ∨ i = 1 ∨ i = 2 ∨ i = 3 ∨ i = 4 := by omega
        rcases hcase with rfl | rfl | rfl | rfl | rfl <;> decide
      rw [← hap, w64 (x := valV (P ++ [b])) (by omega) (by omega), w64 (x := (i : Int) + 1) (by omega) (by omega)]
      by_cases c2 : b < 128
      · refine ev_pos c2 ?_
        simp only [prefixV, if_pos c2, Option.map_some, outR]
        by_cases c3 : valV (P ++ [b]) ≤ 1000000000
        · refine Ev.bind (impl_VarText_ev hap0 c3) (ev_pos rfl ?_)
          rw [strOfNums_size]
          by_cases c4 : (var5 (valV (P ++ [b]))).length = (P ++ [b]).length
          · refine ev_rpos ⟨c3, c4⟩ ?_
            refine ev_pos (by rw [c4, hlen]; rfl) (ev_eq ?_ (ev_ret _))
            rw [w64 (by omega) (by omega), hlen]
            congr 2
            omega
          · refine ev_rneg (fun h => c4 h.2) ?_
            exact ev_neg (by omega) (ev_ret _)
        · refine ev_rneg (fun h => c3 h.1) ?_
          exact Ev.bind (impl_VarText_no (fun h => c3 h.2)) (ev_neg (by simp) (ev_ret _))
      · refine ev_neg c2 ?_
        simp only [prefixV, if_neg c2, Option.map_map]
        have h := ih (i + 1) (P ++ [b]) (by omega) hlen (by omega)
        refine ev_eq ?_ h
        rw [show p + ((i + 1 : Nat) : Int) = p + (i : Int) + 1 by omega]
        congr 1
        congr 1
        funext L
        simp
    · refine ev_neg (by simpa using c) (ev_eq ?_ (ev_ret _))
      rw [bs_end (by omega) c]
      rfl
theorem impl_ReadVar_ev (s : ByteArray) (hs : s.size ≤ 140737488351232) (p : Int) : Ev (fun k => impl_ReadVar.f k s p) (readV s p) := by
  unfold impl_ReadVar.f readV
  rw [within_some]
  by_cases c : 0 ≤ p ∧ p ≤ s.size
  · rw [if_pos c]
    refine ev_bindc rfl (ev_pos (by simpa using c) (ev_eq ?_ (impl_ReadVar_l0 s hs p c.1 c.2 5 0 [] (by omega) rfl (by omega))))
    simp
  · rw [if_neg c]
    exact ev_bindc rfl (ev_neg (by simpa using c) (ev_ret _))

theorem varL_length (d : Nat) : ∀ n : Int, (varL d n).length ≤ d + 1 := by
  induction d with
  | zero => intro n; simp [varL]
  | succ d ih =>
    intro n
    unfold varL
    split
    · have := ih (n / 128)
      simp
      omega
    · simp
theorem impl_ShortText_ev {s : ByteArray} (h : s.size ≤ 20000) : Ev (fun k => impl_ShortText.f k s) (strOfNums (var5 s.size) ++ s, true) := by
  unfold impl_ShortText.f
  refine ev_neg (by omega) (Ev.bind (impl_VarText_ev (by omega) (by omega)) (ev_pos ?_ (ev_ret _)))
  have := varL_length 4 s.size
  unfold var5
  rw [strOfNums_size]
  omega

def fig (x : Int) : Int := if x < 10 then 48 + x else 87 + x
def hexL : List Int → List Int
  | [] => []
  | c :: l => fig (c / 16) :: fig (c % 16) :: hexL l
theorem figs_at {q : Int} (h0 : 0 ≤ q) (h1 : q < 16) : bt (⟨#[48, 49, 50, 51, 52, 53, 54, 55, 56, 57, 97, 98, 99, 100, 101, 102]⟩ : ByteArray) q = fig q := by
  have h := (by decide : ∀ q : Fin 16, bt (⟨#[48, 49, 50, 51, 52, 53, 54, 55, 56, 57, 97, 98, 99, 100, 101, 102]⟩ : ByteArray) (q.val : Int) = fig (q.val : Int)) ⟨q.toNat, by omega⟩
  simpa [Int.toNat_of_nonneg h0] using h
theorem impl_Hex_l0 (s : ByteArray) (hs : s.size ≤ 20000) (n : Nat) : ∀ (o : List Int) (i : Int), 0 ≤ i → (s.size : Int) - i = n → (o.length : Int) ≤ 2 * i → Ev (fun k => impl_Hex.l0 k s o i) (strOfNums (o ++ hexL ((bs s).drop i.toNat)), true) := by
  induction n with
  | zero =>
    intro o i h0 hi ho
    refine ev_step ?_
    simp only [impl_Hex.l0]
    rw [bs_end h0 (by omega)]
    refine ev_neg (by omega) (ev_eq ?_ (ev_ret _))
    simp [hexL]
  | succ n ih =>
    intro o i h0 hi ho
    refine ev_step ?_
    simp only [impl_Hex.l0]
    have hb := bt_range s i
    refine ev_pos (by omega) (ev_pos h0 ?_)
    rw [Int.tdiv_eq_ediv_of_nonneg hb.1, Int.tmod_eq_emod_of_nonneg hb.1, show bt s i / 16 % 256 = bt s i / 16 by omega]
    refine ev_pos (by omega) (ev_pos (by omega) (ev_pos (by omega) (ev_pos (by omega) (ev_bindc rfl ?_))))
    refine ev_pos (by simp; omega) ?_
    rw [w64 (x := i + 1) (by omega) (by omega), bs_drop h0 (by omega), figs_at (by omega) (by omega), figs_at (by omega) (by omega)]
    refine ev_eq ?_ (ih (o ++ [fig (bt s i / 16), fig (bt s i % 16)]) (i + 1) (by omega) (by omega) (by simp; omega))
    simp [hexL]
theorem impl_Hex_ev (s : ByteArray) (hs : s.size ≤ 20000) : Ev (fun k => impl_Hex.f k s) (strOfNums (hexL (bs s)), true) := by
  unfold impl_Hex.f
  exact ev_neg (by omega) (ev_eq (by simp) (impl_Hex_l0 s hs s.size [] 0 (by omega) (by omega) (by simp)))

def hexVal (c : Int) : Int := if 48 ≤ c ∧ c ≤ 57 then c - 48 else if 97 ≤ c ∧ c ≤ 102 then c - 87 else -1
def unhexL : List Int → Option (List Int)
  | [] => some []
  | [_] => none
  | a :: b :: l => if hexVal a < 0 ∨ hexVal b < 0 then none else (unhexL l).map fun o => (16 * hexVal a + hexVal b) :: o
def unhexR (o : List Int) : Option (List Int) → ByteArray × Bool
  | none => ((⟨#[]⟩ : ByteArray), false)
  | some l => (strOfNums (o ++ l), true)
def unhexP (s : ByteArray) : ByteArray × Bool := if s.size % 2 = 1 ∨ s.size > 40000 then ((⟨#[]⟩ : ByteArray), false) else unhexR [] (unhexL (bs s))
theorem hexVal_range (c : Int) : -1 ≤ hexVal c ∧ hexVal c ≤ 15 := by
  unfold hexVal
  split
  · omega
  · split <;> omega

theorem index_figs {c : Int} (h0 : 0 ≤ c) (h1 : c ≤ 255) : strings_IndexByte.f (⟨#[48, 49, 50, 51, 52, 53, 54, 55, 56, 57, 97, 98, 99, 100, 101, 102]⟩ : ByteArray) c = some (hexVal c) := by
  unfold strings_IndexByte.f stringslite_IndexByte.f
  simp only [Option.bind_some]
  have h := (by decide +kernel : ∀ q : Fin 256, Lib.indexByte [48, 49, 50, 51, 52, 53, 54, 55, 56, 57, 97, 98, 99, 100, 101, 102] (q.val : Int).toNat.toUInt8 = hexVal (q.val : Int)) ⟨c.toNat, by omega⟩
  simp only [Int.toNat_of_nonneg h0] at h
  rw [← h]
theorem impl_Unhex_l0 (s : ByteArray) (hs : s.size ≤ 40000) (n : Nat) : ∀ (o : List Int) (q i : Int), 0 ≤ i → (s.size : Int) - i = 2 * n → i % 2 = 0 → (o.length : Int) ≤ i → Ev (fun k => impl_Unhex.l0 k s o q i) (unhexR o (unhexL ((bs s).drop i.toNat))) := by
  induction n with
  | zero =>
    intro o q i h0 hn h2 ho
    refine ev_step ?_
    simp only [impl_Unhex.l0]
    rw [bs_end h0 (by omega)]
    exact ev_neg (by omega) (ev_eq (by simp [unhexL, unhexR]) (ev_ret _))
  | succ n ih =>
    intro o q i h0 hn h2 ho
    have b0 := bt_range s i
    have b1 := bt_range s (i + 1)
    have v0 := hexVal_range (bt s i)
    have v1 := hexVal_range (bt s (i + 1))
    refine ev_step ?_
    simp only [impl_Unhex.l0]
    rw [bs_drop h0 (by omega), bs_drop (i := i + 1) (by omega) (by omega)]
    refine ev_pos (by omega) (ev_pos h0 (ev_bindc (index_figs b0.1 b0.2) ?_))
    simp only [unhexL]
    by_cases c : hexVal (bt s i) < 0
    · refine ev_eq (congrArg (unhexR o) (if_pos (Or.inl c)).symm) ?_
      exact ev_pos c (ev_ret _)
    · refine ev_neg c (ev_neg ?_ ?_)
      · rw [Int.tmod_eq_emod_of_nonneg h0]
        omega
      · rw [w64 (x := i + 1) (by omega) (by omega)]
        refine ev_step ?_
        simp only [impl_Unhex.l0]
        refine ev_pos (by omega) (ev_pos (by omega) (ev_bindc (index_figs b1.1 b1.2) ?_))
        by_cases c2 : hexVal (bt s (i + 1)) < 0
        · refine ev_eq (congrArg (unhexR o) (if_pos (Or.inr c2)).symm) ?_
          exact ev_pos c2 (ev_ret _)
        · refine ev_eq (congrArg (unhexR o) (if_neg (fun h => Or.elim h c c2)).symm) ?_
          refine ev_neg c2 (ev_pos ?_ (ev_pos (by omega) ?_))
          · rw [Int.tmod_eq_emod_of_nonneg (by omega)]
            omega
          · rw [w64 (x := 16 * hexVal (bt s i)) (by omega) (by omega), w64 (x := 16 * hexVal (bt s i) + hexVal (bt s (i + 1))) (by omega) (by omega), Int.emod_eq_of_lt (by omega) (by omega), w64 (x := i + 1 + 1) (by omega) (by omega)]
            refine ev_eq ?_ (ih (o ++ [16 * hexVal (bt s i) + hexVal (bt s (i + 1))]) (hexVal (bt s (i + 1))) (i + 1 + 1) (by omega) (by omega) (by omega) (by simp; omega))
            cases unhexL ((bs s).drop (i + 1 + 1).toNat) with
            | none => rfl
            | some l => simp [unhexR]
theorem impl_Unhex_ev (s : ByteArray) (hs : s.size ≤ 140737488351232) : Ev (fun k => impl_Unhex.f k s) (unhexP s) := by
  unfold impl_Unhex.f unhexP
  by_cases c : s.size % 2 = 1
  · refine ev_rpos (Or.inl c) ?_
    refine ev_pos (by omega) (ev_step ?_)
    simp only [impl_Unhex.j0]
    exact ev_pos (by simp) (ev_ret _)
  · refine ev_neg (by omega) (ev_step ?_)
    simp only [impl_Unhex.j0]
    by_cases c2 : s.size > 40000
    · refine ev_rpos (Or.inr c2) ?_
      exact ev_pos (by simp; omega) (ev_ret _)
    · refine ev_rneg (fun h => h.elim c c2) ?_
      have h := impl_Unhex_l0 s (by omega) (s.size / 2) [] 0 0 (by omega) (by omega) (by omega) (by simp)
      exact ev_neg (by simp; omega) (by simpa using h)

theorem prefixV_varL (d : Nat) : ∀ (n : Int) (r : List Int), 0 ≤ n → n < 128 * 128 ^ d → prefixV (d + 1) (varL d n ++ r) = some (varL d n) := by
  induction d with
  | zero =>
    intro n r h0 h1
    show (if n < 128 then some [n] else _) = some [n]
    rw [if_pos (by omega)]
  | succ d ih =>
    intro n r h0 h1
    rw [Int.pow_succ] at h1
    unfold varL
    by_cases c : n > 127
    · rw [if_pos c]
      show (if n % 128 + 128 < 128 then some [n % 128 + 128] else (prefixV (d + 1) (varL d (n / 128) ++ r)).map fun L => (n % 128 + 128) :: L) = _
      rw [if_neg (by omega), ih (n / 128) r (by omega) (by omega)]
      rfl
    · rw [if_neg c]
      show (if n < 128 then some [n] else _) = some [n]
      rw [if_pos (by omega)]
theorem valV_varL (d : Nat) : ∀ n : Int, 0 ≤ n → n < 128 * 128 ^ d → valV (varL d n) = n := by
  induction d with
  | zero =>
    intro n h0 h1
    show n % 128 + 128 * 0 = n
    omega
  | succ d ih =>
    intro n h0 h1
    rw [Int.pow_succ] at h1
    unfold varL
    by_cases c : n > 127
    · rw [if_pos c]
      show (n % 128 + 128) % 128 + 128 * valV (varL d (n / 128)) = n
      rw [ih (n / 128) (by omega) (by omega)]
      omega
    · rw [if_neg c]
      show n % 128 + 128 * 0 = n
      omega
theorem var5_back (n : Int) (r : List Int) (h0 : 0 ≤ n) (h1 : n ≤ 1000000000) (p : Int) : outR p (prefixV 5 (var5 n ++ r)) = (n, p + (var5 n).length, true) := by
  unfold var5
  rw [prefixV_varL 4 n r h0 (by omega)]
  show (if valV (varL 4 n) ≤ 1000000000 ∧ (var5 (valV (varL 4 n))).length = (varL 4 n).length then (valV (varL 4 n), p + ((varL 4 n).length : Int), true) else (0, 0, false)) = _
  rw [valV_varL 4 n h0 (by omega), if_pos ⟨h1, rfl⟩]
theorem var5_byte {n : Int} (h0 : 0 ≤ n) (h1 : n ≤ 1000000000) : ∀ x ∈ var5 n, 0 ≤ x ∧ x < 256 := varL_byte 4 h0 (by omega)
theorem hexVal_fig {q : Int} (h0 : 0 ≤ q) (h1 : q < 16) : hexVal (fig q) = q := by
  unfold hexVal fig
  by_cases c : q < 10
  · rw [if_pos c, if_pos (by omega)]
    omega
  · rw [if_neg c, if_neg (by omega), if_pos (by omega)]
    omega
theorem fig_byte {q : Int} (h0 : 0 ≤ q) (h1 : q < 16) : 0 ≤ fig q ∧ fig q < 256 := by
  unfold fig
  split <;> omega
theorem hexL_facts : ∀ l : List Int, (∀ x ∈ l, 0 ≤ x ∧ x < 256) → unhexL (hexL l) = some l ∧ (hexL l).length = 2 * l.length ∧ ∀ x ∈ hexL l, 0 ≤ x ∧ x < 256
  | [], _ => ⟨rfl, rfl, fun x hx => by cases hx⟩
  | c :: l, h => by
    obtain ⟨h1, h2, h3⟩ := hexL_facts l (fun x hx => h x (List.mem_cons_of_mem _ hx))
    have hc := h c (List.mem_cons_self ..)
    have a0 : 0 ≤ c / 16 ∧ c / 16 < 16 := by omega
    have b0 : 0 ≤ c % 16 ∧ c % 16 < 16 := by omega
    refine ⟨?_, by show (hexL l).length + 1 + 1 = 2 * (l.length + 1); omega, fun x hx => ?_⟩
    · show (if hexVal (fig (c / 16)) < 0 ∨ hexVal (fig (c % 16)) < 0 then none else (unhexL (hexL l)).map fun o => (16 * hexVal (fig (c / 16)) + hexVal (fig (c % 16))) :: o) = _
      rw [hexVal_fig a0.1 a0.2, hexVal_fig b0.1 b0.2, if_neg (by omega), h1]
      show some ((16 * (c / 16) + c % 16) :: l) = some (c :: l)
      rw [show 16 * (c / 16) + c % 16 = c by omega]
    · rcases List.mem_cons.1 hx with rfl | hx
      · exact fig_byte a0.1 a0.2
      rcases List.mem_cons.1 hx with rfl | hx
      · exact fig_byte b0.1 b0.2
      · exact h3 x hx
theorem unhex_hex (t : ByteArray) (ht : t.size ≤ 300) : unhexP (strOfNums (hexL (bs t))) = (t, true) := by
  obtain ⟨h1, h2, h3⟩ := hexL_facts (bs t) (fun x hx => bs_range hx)
  have hb := bs_length t
  unfold unhexP
  have hs : (strOfNums (hexL (bs t))).size = 2 * t.size := by rw [strOfNums_size, h2, hb]
  rw [if_neg (by omega), bs_strOf h3, h1]
  show (strOfNums ([] ++ bs t), true) = (t, true)
  rw [List.nil_append, strOf_bs]
/-! Draws -/
theorem l01Number_some (b : List Int) (hb : b.length ≤ 140737488351232) (i h : Int) (h0 : 0 ≤ i) : ∃ x, spec_l01Number.f b i h = some x := by
  unfold spec_l01Number.f
  obtain ⟨x, i', h', e, x0, x1, q⟩ := l01Below_some b hb i h 4 h0 (by omega) (by omega)
  rw [e]
  simp only [Option.bind_some]
  split
  · obtain ⟨y, i2, h2, e2, q2⟩ := l01PickInt_some b hb i' h' [(-1), 0, 127, 128, 16383, 16384, 1000000000, 1000000001, 9223372036854775807, (-9223372036854775808)] q (by decide) (by decide)
    rw [e2]
    exact ⟨_, rfl⟩
  · split
    · obtain ⟨y, i2, h2, e2, _⟩ := l01Below_some b hb i' h' 1000000000 q (by omega) (by omega)
      rw [e2]
      exact ⟨_, rfl⟩
    · obtain ⟨y, i2, h2, e2, _⟩ := l01Below_some b hb i' h' 400 q (by omega) (by omega)
      rw [e2]
      exact ⟨_, rfl⟩
theorem drawVar (b : List Int) (hb : b.length ≤ 140737488351232) : ∃ t, Ev (fun k => spec_DrawVarText.f k b) t := by
  obtain ⟨h, hn⟩ := l01New_ev b hb
  obtain ⟨x, hx⟩ := l01Number_some b hb 0 h (by omega)
  exact ⟨_, Ev.bind hn (ev_bindc hx (ev_ret _))⟩
theorem l01Long_l0 (N c : Int) (d : Nat) : ∀ (i : Int) (l : List Int), 0 ≤ i → N ≤ 20001 → (l.length : Int) = N → N - i = d → ∃ t, Ev (fun k => spec_l01Long.l0 k N c l i) t := by
  induction d with
  | zero =>
    intro i l h0 hN hl hd
    refine ⟨strOfNums l, ev_step ?_⟩
    simp only [spec_l01Long.l0]
    exact ev_neg (by omega) (ev_ret _)
  | succ d ih =>
    intro i l h0 hN hl hd
    obtain ⟨t, e⟩ := ih (i + 1) (l.set i.toNat c) (by omega) hN (by simpa using hl) (by omega)
    refine ⟨t, ev_step ?_⟩
    simp only [spec_l01Long.l0]
    rw [w64 (x := i + 1) (by omega) (by omega)]
    exact ev_pos (by omega) (ev_pos h0 (ev_pos (by omega) e))
theorem l01Text_l0 (b : List Int) (hb : b.length ≤ 140737488351232) (N : Int) (hN : N ≤ 5000) (d : Nat) : ∀ (i : Int) (l : List Int) (p q : Int), 0 ≤ i → (l.length : Int) = i → N - i = d → 0 ≤ p → ∃ t, Ev (fun k => spec_l01Text.l0 k N l i b p q) t := by
  induction d with
  | zero =>
    intro i l p q h0 hl hd hp
    refine ⟨(strOfNums l, p, q), ev_step ?_⟩
    simp only [spec_l01Text.l0]
    exact ev_neg (by omega) (ev_ret _)
  | succ d ih =>
    intro i l p q h0 hl hd hp
    obtain ⟨x, i', h', e, _, _, q'⟩ := l01Byte_some b hb p q hp
    obtain ⟨t, et⟩ := ih (i + 1) (l ++ [x % 256]) i' h' (by omega) (by simp; omega) (by omega) q'
    refine ⟨t, ev_step ?_⟩
    simp only [spec_l01Text.l0]
    rw [w64 (x := i + 1) (by omega) (by omega)]
    exact ev_pos (by omega) (ev_bindc e (ev_pos (by omega) et))
theorem drawHex (b : List Int) (hb : b.length ≤ 140737488351232) : ∃ t, Ev (fun k => spec_DrawHex.f k b) t := by
  obtain ⟨h, hn⟩ := l01New_ev b hb
  obtain ⟨x, i', h', e, x0, x1, q⟩ := l01Below_some b hb 0 h 60 (by omega) (by omega) (by omega)
  have ho : spec_l01Once.f b 0 h 60 = some ((x == 0), i', h') := by
    unfold spec_l01Once.f
    rw [e]
    rfl
  by_cases c : (x == 0) = true
  · obtain ⟨y, i2, h2, e2, y0, y1, _⟩ := l01Below_some b hb i' h' 2 q (by omega) (by omega)
    obtain ⟨t, et⟩ := l01Long_l0 (20000 + y) 200 (20000 + y).toNat 0 (List.replicate (20000 + y).toNat 0) (by omega) (by omega) (by rw [List.length_replicate]; omega) (by omega)
    refine ⟨t, ?_⟩
    unfold spec_DrawHex.f spec_l01Long.f
    refine Ev.bind hn (ev_bindc ho (ev_pos c (ev_bindc e2 (Ev.bind ?_ (ev_ret _)))))
    rw [w64 (x := 20000 + y) (by omega) (by omega)]
    exact ev_pos (by omega) (ev_pos (by omega) et)
  · obtain ⟨y, i2, h2, e2, y0, y1, q2⟩ := l01Below_some b hb i' h' 30 q (by omega) (by omega)
    obtain ⟨t, et⟩ := l01Text_l0 b hb y (by omega) y.toNat 0 [] i2 h2 (by omega) (by simp) (by omega) q2
    refine ⟨t.1, ?_⟩
    unfold spec_DrawHex.f spec_l01Text.f
    refine Ev.bind hn (ev_bindc ho (ev_neg c (ev_bindc e2 (Ev.bind (ev_neg (by omega) (ev_step ?_)) (ev_ret _)))))
    simp only [spec_l01Text.j0]
    exact et
theorem numbers_j2 (n : Int) (s t : ByteArray) (hs : s.size ≤ 1000) (ht : t.size ≤ 300) : Ev (fun k => laws_FnNumbers.j2 k n s true n ((s.size : Int) + 1) true n true t) true := by
  have hb := bs_length t
  have hv := varL_length 4 t.size
  have hvb := var5_byte (n := t.size) (by omega) (by omega)
  have hsh := impl_ShortText_ev (s := t) (by omega)
  have hsz : (strOfNums (var5 (t.size : Int)) ++ t).size = (var5 (t.size : Int)).length + t.size := by rw [ByteArray.size_append, strOfNums_size]
  have hbs : bs (strOfNums (var5 (t.size : Int)) ++ t) = var5 (t.size : Int) ++ bs t := by rw [bs_append, bs_strOf hvb]
  have hv : (var5 (t.size : Int)).length ≤ 5 := hv
  have hrv : Ev (fun k => impl_ReadVar.f k (strOfNums (var5 (t.size : Int)) ++ t) 0) ((t.size : Int), 0 + ((var5 (t.size : Int)).length : Int), true) := by
    refine ev_eq ?_ (impl_ReadVar_ev _ (by omega) 0)
    unfold readV
    rw [if_pos (by omega), hbs]
    exact var5_back t.size (bs t) (by omega) (by omega) 0
  have hrs : Ev (fun k => impl_ReadShort.f k (strOfNums (var5 (t.size : Int)) ++ t) 0) (t, ((strOfNums (var5 (t.size : Int)) ++ t).size : Int), true) := by
    unfold impl_ReadShort.f
    refine Ev.bind hrv (ev_pos rfl (ev_neg (by show ¬ (t.size : Int) > 20000; omega) ?_))
    show Ev (fun k => if (t.size : Int) > (wrap64 (((strOfNums (var5 (t.size : Int)) ++ t).size : Int) - (0 + ((var5 (t.size : Int)).length : Int)))) then _ else (if 0 ≤ (0 + ((var5 (t.size : Int)).length : Int)) then (if (0 + ((var5 (t.size : Int)).length : Int)) ≤ (wrap64 ((0 + ((var5 (t.size : Int)).length : Int)) + (t.size : Int))) then (if (wrap64 ((0 + ((var5 (t.size : Int)).length : Int)) + (t.size : Int))) ≤ ((strOfNums (var5 (t.size : Int)) ++ t).size : Int) then _ else _) else _) else _)) _
    rw [w64 (x := ((strOfNums (var5 (t.size : Int)) ++ t).size : Int) - (0 + ((var5 (t.size : Int)).length : Int))) (by omega) (by omega), w64 (x := (0 + ((var5 (t.size : Int)).length : Int)) + (t.size : Int)) (by omega) (by omega)]
    refine ev_neg (by omega) (ev_pos (by omega) (ev_pos (by omega) (ev_pos (by omega) (ev_eq ?_ (ev_ret _)))))
    refine Prod.ext ?_ (Prod.ext ?_ rfl)
    · refine bs_inj ?_
      rw [bs_extract, hbs]
      rw [show (0 + ((var5 (t.size : Int)).length : Int)).toNat = (var5 (t.size : Int)).length by omega, List.drop_left]
      exact List.take_of_length_le (by omega)
    · show (0 + ((var5 (t.size : Int)).length : Int)) + (t.size : Int) = ((strOfNums (var5 (t.size : Int)) ++ t).size : Int)
      omega
  have hh := impl_Hex_ev t (by omega)
  have hf := hexL_facts (bs t) (fun x hx => bs_range hx)
  have hu : Ev (fun k => impl_Unhex.f k (strOfNums (hexL (bs t)))) (t, true) := by
    refine ev_eq (unhex_hex t ht) (impl_Unhex_ev _ ?_)
    rw [strOfNums_size, hf.2.1]
    omega
  refine ev_step ?_
  simp only [laws_FnNumbers.j2]
  rw [w64 (x := (s.size : Int) + 1) (by omega) (by omega)]
  refine Ev.bind hsh (Ev.bind hrs (Ev.bind hh (Ev.bind hu ?_)))
  refine ev_pos trivial (ev_pos trivial (ev_pos trivial (ev_pos rfl (ev_pos rfl (ev_pos rfl (ev_pos rfl (ev_pos trivial (ev_pos trivial (ev_pos rfl (ev_pos rfl (ev_pos rfl (ev_eq ?_ (ev_ret _)))))))))))))
  exact beq_self_eq_true _
theorem numbers_j1 (b : List Int) (hb : b.length ≤ 140737488351232) (n : Int) (h0 : 0 ≤ n) (h1 : n ≤ 1000000000) : Ev (fun k => laws_FnNumbers.j1 k b n) true := by
  have hv := varL_length 4 n
  have hv : (var5 n).length ≤ 5 := hv
  have hvb := var5_byte h0 h1
  have hvt := impl_VarText_ev h0 h1
  have hsz : (strOfNums (var5 n)).size = (var5 n).length := strOfNums_size _
  have hx : bs (((⟨#[120]⟩ : ByteArray) ++ strOfNums (var5 n)) ++ (⟨#[121]⟩ : ByteArray)) = 120 :: (var5 n ++ [121]) := by
    rw [bs_append, bs_append, bs_strOf hvb]
    rfl
  have hx2 : ((⟨#[120]⟩ : ByteArray) ++ strOfNums (var5 n)).size = 1 + (var5 n).length := by
    rw [ByteArray.size_append, hsz]
    rfl
  have hx3 : (((⟨#[120]⟩ : ByteArray) ++ strOfNums (var5 n)) ++ (⟨#[121]⟩ : ByteArray)).size = 1 + (var5 n).length + 1 := by
    rw [ByteArray.size_append, hx2]
    rfl
  have hrv : Ev (fun k => impl_ReadVar.f k (((⟨#[120]⟩ : ByteArray) ++ strOfNums (var5 n)) ++ (⟨#[121]⟩ : ByteArray)) 1) (n, ((strOfNums (var5 n)).size : Int) + 1, true) := by
    refine ev_eq ?_ (impl_ReadVar_ev _ (by omega) 1)
    unfold readV
    rw [if_pos (by omega), hx]
    show outR 1 (prefixV 5 (var5 n ++ [121])) = _
    rw [var5_back n [121] h0 h1 1, hsz, Int.add_comm]
  have hd : ∀ k, impl_Decimal.f k n = some (numT n) := fun k => if_pos (by omega)
  have hn : isNum (numT n) n := ⟨rfl, h0, h1⟩
  have hr : ∀ k, impl_ReadDecimal.f k (numT n) = some (n, true) := fun k => by
    unfold impl_ReadDecimal.f
    rw [if_pos (by have := (num_facts hn).2.1; omega), numV_pos hn]
  obtain ⟨t, et⟩ := drawHex b hb
  refine ev_step ?_
  simp only [laws_FnNumbers.j1]
  refine Ev.bind hvt (ev_pos (by show 1 + (strOfNums (var5 n)).size ≤ 9223372036854775807; omega) (ev_pos (by show ((⟨#[120]⟩ : ByteArray) ++ strOfNums (var5 n)).size + 1 ≤ 9223372036854775807; omega) (Ev.bind hrv (Ev.bind (Ev.congr hd (ev_ret _)) (Ev.bind (Ev.congr hr (ev_ret _)) (Ev.bind et (ev_ite (fun _ => ?_) (fun c => ?_))))))))
  · exact numbers_j2 n (strOfNums (var5 n)) _ (by omega) (by decide)
  · exact numbers_j2 n (strOfNums (var5 n)) t (by omega) (by omega)
theorem FnNumbers : laws_FnNumbers.Pure := by
  intro b _ hl _
  refine Ev.rounds ?_
  unfold laws_FnNumbers.f
  refine ev_bindc rfl (ev_ite (fun _ => ev_ret _) (fun _ => ?_))
  have hb : b.length ≤ 140737488351232 := by omega
  obtain ⟨t, et⟩ := drawVar b hb
  refine Ev.bind et ?_
  have big := numbers_j1 b hb 12345 (by omega) (by omega)
  have J : Ev (fun k => laws_FnNumbers.j0 k b t true) true := by
    refine ev_step ?_
    simp only [laws_FnNumbers.j0]
    exact ev_pos trivial big
  refine ev_ite (fun _ => J) (fun c => ?_)
  by_cases c2 : t > 1000000000
  · rw [decide_eq_true c2]
    exact J
  · rw [decide_eq_false c2]
    refine ev_step ?_
    simp only [laws_FnNumbers.j0]
    exact ev_neg (by simp) (numbers_j1 b hb t (by omega) (by omega))

end Go.Proofs.YtmbkcbgbienjoaaDoor.Pure
