/- The program's PartsOf answers as the reference's at every line, and its answer owns its memory. No condition beyond the law's own bound and the table that the row lists. -/
import Derived.Test.YtegeahiflkjhmaaDoorPFnExactPartsOfx2
set_option linter.unusedVariables false
set_option linter.unusedSimpArgs false
namespace Go.Proofs.YtegeahiflkjhmaaDoor.Pure
open Go.RowKit Go.Proofs.YtegeahiflkjhmaaDoor.PFnExactPartsOf Go.Proofs.YtegeahiflkjhmaaDoorW.PrintWords Go.Proofs.YtegeahiflkjhmaaDoorW.PrintLast Go.Proofs.YtegeahiflkjhmaaDoorW.PrintMore

theorem w64 {x : Int} (h0 : -9223372036854775808 ≤ x) (h1 : x ≤ 9223372036854775807) : wrap64 x = x := by
  unfold wrap64
  omega
theorem wf_i64 {x : Int} (h : (Lit.int .i64 x).wf = true) : -9223372036854775808 ≤ x ∧ x ≤ 9223372036854775807 := by
  simp [Lit.wf, IntKind.min, IntKind.max, IntKind.signed, IntKind.bits] at h
  omega

instance lawBA : LawfulBEq ByteArray where
  eq_of_beq {a b} h := by
    cases a
    cases b
    congr 1
    exact eq_of_beq (α := Array UInt8) h
  rfl {a} := by
    cases a
    exact BEq.rfl (α := Array UInt8)

/-! Rounds -/
theorem ev_step {α : Type} {g : Nat → Option α} {r : α} (h : Ev (fun k => g (k + 1)) r) : Ev g r := Ev.step (fun _ => rfl) h
theorem ev_ret {α : Type} (r : α) : Ev (fun _ => some r) r := ⟨0, fun _ _ => rfl⟩
theorem ev_pos {α : Type} {c : Prop} [Decidable c] {g f : Nat → Option α} {r : α} (h : c) (k : Ev g r) : Ev (fun n => if c then g n else f n) r :=
  Ev.congr (fun _ => if_pos h) k
theorem ev_neg {α : Type} {c : Prop} [Decidable c] {g f : Nat → Option α} {r : α} (h : ¬ c) (k : Ev f r) : Ev (fun n => if c then g n else f n) r :=
  Ev.congr (fun _ => if_neg h) k
theorem ev_bindc {α β : Type} {x : Option α} {f : Nat → α → Option β} {a : α} {r : β} (h : x = some a) (k : Ev (fun n => f n a) r) : Ev (fun n => x.bind (f n)) r := by
  subst h
  exact k
theorem ev_rpos {α : Type} {c : Prop} [Decidable c] {g : Nat → Option α} {a b : α} (h : c) (k : Ev g a) : Ev g (if c then a else b) := by
  rw [if_pos h]
  exact k
theorem ev_rneg {α : Type} {c : Prop} [Decidable c] {g : Nat → Option α} {a b : α} (h : ¬ c) (k : Ev g b) : Ev g (if c then a else b) := by
  rw [if_neg h]
  exact k
theorem ev_eq {α : Type} {g : Nat → Option α} {r r' : α} (h : r = r') (k : Ev g r) : Ev g r' := h ▸ k

/-! Lists and texts as lists of numbers -/
def bs (s : ByteArray) : List Int := s.data.toList.map fun c => (c.toNat : Int)
theorem bs_length (s : ByteArray) : (bs s).length = s.size := by
  unfold bs
  rw [List.length_map, Array.length_toList]
  rfl
theorem bs_range {s : ByteArray} {x : Int} (h : x ∈ bs s) : 0 ≤ x ∧ x < 256 := by
  unfold bs at h
  obtain ⟨c, _, rfl⟩ := List.mem_map.1 h
  have := c.toNat_lt
  omega
theorem bs_inj {a b : ByteArray} (h : bs a = bs b) : a = b := by
  have h2 : a.data.toList = b.data.toList := by
    have h3 := congrArg (List.map fun n : Int => UInt8.ofNat n.toNat) h
    unfold bs at h3
    rw [List.map_map, List.map_map] at h3
    have e : ∀ l : List UInt8, l.map ((fun n : Int => UInt8.ofNat n.toNat) ∘ fun c => (c.toNat : Int)) = l := by
      intro l
      induction l with
      | nil => rfl
      | cons c l ih =>
        rw [List.map_cons, ih]
        simp
    rwa [e, e] at h3
  cases a
  cases b
  congr 1
  exact Array.toList_inj.1 h2
theorem toList_eq_iff {a b : ByteArray} : a.toList = b.toList ↔ a = b := by
  constructor
  · intro h
    rw [ByteArray.toList_eq, ByteArray.toList_eq] at h
    cases a
    cases b
    congr 1
    exact Array.toList_inj.1 h
  · rintro rfl
    rfl
theorem drop_rd {α : Type} {d : α} {l : List α} {i : Int} (h0 : 0 ≤ i) (h1 : i < l.length) : l.drop i.toNat = rdOf d l i :: l.drop (i + 1).toNat := by
  have h2 : i.toNat < l.length := by omega
  rw [List.drop_eq_getElem_cons h2]
  unfold rdOf
  rw [List.getD_eq_getElem?_getD, List.getElem?_eq_getElem h2, show (i + 1).toNat = i.toNat + 1 by omega]
  rfl
theorem drop_end {α : Type} {l : List α} {i : Int} (h0 : 0 ≤ i) (h1 : ¬ i < l.length) : l.drop i.toNat = [] := List.drop_eq_nil_of_le (by omega)
theorem bs_rd {s : ByteArray} {i : Int} (h0 : 0 ≤ i) (h1 : i < s.size) : rdOf 0 (bs s) i = bt s i := by
  have h2 : i.toNat < s.size := by omega
  have h3 : i.toNat < s.data.toList.length := by
    rw [Array.length_toList]
    exact h2
  unfold rdOf bs bt
  rw [List.getD_eq_getElem?_getD, List.getElem?_map, List.getElem?_eq_getElem h3, dif_pos h2]
  rfl
theorem bs_drop {s : ByteArray} {i : Int} (h0 : 0 ≤ i) (h1 : i < s.size) : (bs s).drop i.toNat = bt s i :: (bs s).drop (i + 1).toNat := by
  rw [drop_rd (d := 0) h0 (by rw [bs_length]; exact h1), bs_rd h0 h1]
theorem bs_end {s : ByteArray} {i : Int} (h0 : 0 ≤ i) (h1 : ¬ i < s.size) : (bs s).drop i.toNat = [] := drop_end h0 (by rw [bs_length]; exact h1)
theorem strOf_bs (s : ByteArray) : strOfNums (bs s) = s := by
  have e : (bs s).map (fun n => UInt8.ofNat n.toNat) = s.data.toList := by
    unfold bs
    rw [List.map_map]
    conv => rhs; rw [← List.map_id s.data.toList]
    exact List.map_congr_left fun c _ => by simp
  unfold strOfNums
  rw [e]
theorem bs_strOf {l : List Int} (h : ∀ x ∈ l, 0 ≤ x ∧ x < 256) : bs (strOfNums l) = l := by
  unfold bs strOfNums
  rw [List.map_map]
  conv => rhs; rw [← List.map_id l]
  refine List.map_congr_left fun x hx => ?_
  obtain ⟨h0, h1⟩ := h x hx
  simp only [Function.comp_apply, UInt8.toNat_ofNat', id_eq]
  omega
theorem bs_append (a b : ByteArray) : bs (a ++ b) = bs a ++ bs b := by simp [bs]
theorem strOf_append (a b : List Int) : strOfNums (a ++ b) = strOfNums a ++ strOfNums b := by
  cases h : strOfNums a ++ strOfNums b
  rename_i d
  have := congrArg ByteArray.data h
  simp only [ByteArray.data_append] at this
  unfold strOfNums at this ⊢
  simp only [← this]
  simp
theorem ev_id {α : Type} {g : Nat → Option α} {r : α} (h : ∀ k, g k = some r) : Ev g r := ⟨0, fun k _ => h k⟩

theorem set_take {α : Type} (l : List α) (i : Nat) (x : α) (h : i < l.length) : (l.set i x).take (i + 1) = l.take i ++ [x] := by
  apply List.ext_getElem?
  intro j
  rcases Nat.lt_trichotomy j i with hj | hj | hj
  · rw [List.getElem?_take_of_lt (by omega), List.getElem?_set_ne (by omega), List.getElem?_append_left (by simp; omega), List.getElem?_take_of_lt hj]
  · subst hj
    rw [List.getElem?_take_of_lt (by omega), List.getElem?_set_self h, List.getElem?_append_right (by simp; omega)]
    simp [Nat.min_eq_left (Nat.le_of_lt h)]
  · rw [List.getElem?_eq_none (by simp; omega), List.getElem?_eq_none (by simp; omega)]
theorem take_rd {α : Type} (d : α) {l : List α} {i : Int} (h0 : 0 ≤ i) (h1 : i < l.length) : l.take (i + 1).toNat = l.take i.toNat ++ [rdOf d l i] := by
  have h2 : i.toNat < l.length := by omega
  rw [show (i + 1).toNat = i.toNat + 1 by omega, List.take_succ_eq_append_getElem h2]
  unfold rdOf
  rw [List.getD_eq_getElem?_getD, List.getElem?_eq_getElem h2]
  rfl
theorem rd_rdOf (l : List Int) (i : Int) : rd l i = rdOf 0 l i := rfl
theorem rdOf_mem {α : Type} {d : α} {l : List α} {i : Int} (h0 : 0 ≤ i) (h1 : i < l.length) : rdOf d l i ∈ l := by
  unfold rdOf
  rw [List.getD_eq_getElem?_getD, List.getElem?_eq_getElem (show i.toNat < l.length by omega)]
  exact List.getElem_mem _
/-- A copy made element by element, one round. -/
theorem copy_step {α : Type} (d : α) {src acc : List α} {i : Int} (h0 : 0 ≤ i) (h1 : i < src.length) (hl : acc.length = src.length) (ht : acc.take i.toNat = src.take i.toNat) :
    (acc.set i.toNat (rdOf d src i)).length = src.length ∧ (acc.set i.toNat (rdOf d src i)).take (i + 1).toNat = src.take (i + 1).toNat := by
  refine ⟨by simpa using hl, ?_⟩
  rw [take_rd d h0 h1, ← ht, show (i + 1).toNat = i.toNat + 1 by omega, set_take _ _ _ (by omega)]
theorem copy_end {α : Type} {src acc : List α} {i : Int} (h0 : 0 ≤ i) (h1 : ¬ i < src.length) (hl : acc.length = src.length) (ht : acc.take i.toNat = src.take i.toNat) : acc = src := by
  rw [List.take_of_length_le (by omega), List.take_of_length_le (by omega)] at ht
  exact ht

/-- n marks from m on. -/
def upBy {α : Type} (f : Int → α) (m : Int) : Nat → List α
  | 0 => []
  | n + 1 => f m :: upBy f (m + 1) n
theorem upBy_length {α : Type} (f : Int → α) (n : Nat) : ∀ m : Int, (upBy f m n).length = n := by
  induction n with
  | zero => intro m; rfl
  | succ n ih => intro m; simp [upBy, ih]
theorem upBy_snoc {α : Type} (f : Int → α) (n : Nat) : ∀ m : Int, upBy f m n ++ [f (m + n)] = upBy f m (n + 1) := by
  induction n with
  | zero => intro m; simp [upBy]
  | succ n ih =>
    intro m
    have h := ih (m + 1)
    rw [show m + 1 + (n : Int) = m + ((n + 1 : Nat) : Int) by omega] at h
    show f m :: (upBy f (m + 1) n ++ [f (m + ((n + 1 : Nat) : Int))]) = f m :: upBy f (m + 1) (n + 1)
    rw [h]
theorem upBy_get {α : Type} (f : Int → α) : ∀ (N : Nat) (m : Int) (i : Nat), i < N → (upBy f m N)[i]? = some (f (m + i)) := by
  intro N
  induction N with
  | zero => intro m i h; omega
  | succ N ih =>
    intro m i h
    cases i with
    | zero => simp [upBy]
    | succ i =>
      simp only [upBy, List.getElem?_cons_succ]
      rw [ih (m + 1) i (by omega), show m + 1 + (i : Int) = m + ((i + 1 : Nat) : Int) by omega]
theorem upBy_rd {α : Type} (d : α) (f : Int → α) (m : Int) (N i : Nat) (h : i < N) : rdOf d (upBy f m N) i = f (m + i) := by
  unfold rdOf
  rw [List.getD_eq_getElem?_getD, show ((i : Int)).toNat = i by omega, upBy_get f N m i h]
  rfl

theorem markText_l0 (d : Nat) : ∀ (m : Int) (x : ByteArray), 0 ≤ m → m < 10 ^ d → x.size + d ≤ 1000 → m ≤ 9223372036854775807 → ∃ t, Ev (fun k => laws_markText.l0 k m x) t := by
  induction d with
  | zero =>
    intro m x h0 h1 hx _
    refine ⟨(⟨#[109]⟩ : ByteArray) ++ x, ev_step ?_⟩
    simp only [laws_markText.l0]
    exact ev_neg (by omega) (ev_pos (by omega) (ev_ret _))
  | succ d ih =>
    intro m x h0 h1 hx hm
    rw [Int.pow_succ] at h1
    by_cases c : m > 0
    · obtain ⟨t, ht⟩ := ih (m / 10) (strOfNums [(wrap64 (48 + (Int.tmod m 10))) % 256] ++ x) (by omega) (by omega) (by rw [ByteArray.size_append, strOfNums_size]; simp; omega) (by omega)
      refine ⟨t, ev_step ?_⟩
      simp only [laws_markText.l0]
      refine ev_pos c (ev_bindc rfl (ev_pos ?_ ?_))
      · rw [strOfNums_size]
        simp
        omega
      · rw [Int.tdiv_eq_ediv_of_nonneg h0, w64 (x := m / 10) (by omega) (by omega)]
        exact ht
    · refine ⟨(⟨#[109]⟩ : ByteArray) ++ x, ev_step ?_⟩
      simp only [laws_markText.l0]
      exact ev_neg c (ev_pos (by omega) (ev_ret _))
theorem markText_some (m : Int) (h0 : 0 ≤ m) (h1 : m ≤ 10000000000000) : ∃ t, Ev (fun k => laws_markText.f k m) t := by
  unfold laws_markText.f
  by_cases c : m ≤ 0
  · exact ⟨_, ev_pos c (ev_ret _)⟩
  · obtain ⟨t, ht⟩ := markText_l0 14 m ⟨#[]⟩ h0 (by omega) (by decide) (by omega)
    exact ⟨t, ev_neg c ht⟩
open Classical in
noncomputable def markT (m : Int) : ByteArray := if h : 0 ≤ m ∧ m ≤ 10000000000000 then Classical.choose (markText_some m h.1 h.2) else ByteArray.empty
theorem markT_ev (m : Int) (h0 : 0 ≤ m) (h1 : m ≤ 10000000000000) : Ev (fun k => laws_markText.f k m) (markT m) := by
  unfold markT
  rw [dif_pos ⟨h0, h1⟩]
  exact Classical.choose_spec (markText_some m h0 h1)

noncomputable def upText (m : Int) (n : Nat) : List ByteArray := upBy markT m n
theorem upText_length (m : Int) (n : Nat) : (upText m n).length = n := upBy_length _ n m
theorem markStringS_l0 (m : Int) (N : Nat) (hN : N ≤ 1000000000) (hm : 0 ≤ m) (hm2 : m ≤ 1000000000000) (n : Nat) : ∀ (l : List ByteArray) (i : Nat), l.length = N → i + n = N → l.take i = upText m i → Ev (fun k => laws_markStringS.l0 k l (m + i) i) (m + N, upText m N) := by
  induction n with
  | zero =>
    intro l i hl hn ht
    refine ev_step ?_
    simp only [laws_markStringS.l0]
    refine ev_neg (by omega) (ev_eq ?_ (ev_ret _))
    obtain rfl : i = N := by omega
    rw [List.take_of_length_le (by omega)] at ht
    rw [ht]
  | succ n ih =>
    intro l i hl hn ht
    refine ev_step ?_
    simp only [laws_markStringS.l0]
    refine ev_pos (by omega) (Ev.bind (markT_ev (m + i) (by omega) (by omega)) (ev_pos (by omega) ?_))
    rw [w64 (x := m + (i : Int) + 1) (by omega) (by omega), w64 (x := (i : Int) + 1) (by omega) (by omega)]
    have h := ih (l.set i (markT (m + i))) (i + 1) (by simpa using hl) (by omega) (by rw [set_take _ _ _ (by omega), ht]; exact upBy_snoc _ i m)
    rw [show m + ((i + 1 : Nat) : Int) = m + (i : Int) + 1 by omega, show ((i + 1 : Nat) : Int) = (i : Int) + 1 by omega] at h
    exact h
theorem markStringS_ev (l : List ByteArray) (m : Int) (hl : l.length ≤ 1000000000) (hm : 0 ≤ m) (hm2 : m ≤ 1000000000000) : Ev (fun k => laws_markStringS.f k l m) (m + l.length, upText m l.length) := by
  unfold laws_markStringS.f
  have h := markStringS_l0 m l.length hl hm hm2 l.length l 0 rfl (by omega) rfl
  simpa using h

theorem heldStringS_l0 (m : Int) (N : Nat) (hN : N ≤ 1000000000) (hm : 0 ≤ m) (hm2 : m ≤ 1000000000000) (n : Nat) : ∀ (i : Nat), i + n = N → Ev (fun k => laws_heldStringS.l0 k (upText m N) (m + i) i) (m + N) := by
  have hl := upText_length m N
  induction n with
  | zero =>
    intro i hn
    refine ev_step ?_
    simp only [laws_heldStringS.l0]
    refine ev_neg (by omega) (ev_eq ?_ (ev_ret _))
    obtain rfl : i = N := by omega
    rfl
  | succ n ih =>
    intro i hn
    refine ev_step ?_
    simp only [laws_heldStringS.l0]
    refine ev_pos (by omega) (ev_pos (by omega) (Ev.bind (markT_ev (m + i) (by omega) (by omega)) (ev_pos ?_ ?_)))
    · rw [show rdOf ByteArray.empty (upText m N) (i : Int) = markT (m + i) from upBy_rd _ _ m N i (by omega)]
    · rw [w64 (x := m + (i : Int) + 1) (by omega) (by omega), w64 (x := (i : Int) + 1) (by omega) (by omega)]
      have h := ih (i + 1) (by omega)
      rw [show m + ((i + 1 : Nat) : Int) = m + (i : Int) + 1 by omega, show ((i + 1 : Nat) : Int) = (i : Int) + 1 by omega] at h
      exact h
theorem heldStringS_ev (m : Int) (N : Nat) (hN : N ≤ 1000000000) (hm : 0 ≤ m) (hm2 : m ≤ 1000000000000) : Ev (fun k => laws_heldStringS.f k (upText m N) m) (m + N) := by
  unfold laws_heldStringS.f
  have h := heldStringS_l0 m N hN hm hm2 N 0 (by omega)
  simpa using h

theorem eqStringS_l0 (l : List ByteArray) (hl : l.length ≤ 9223372036854775807) (n : Nat) : ∀ i : Int, 0 ≤ i → (l.length : Int) - i = n → Ev (fun k => laws_eqStringS.l0 k l l i) true := by
  induction n with
  | zero =>
    intro i h0 hn
    refine ev_step ?_
    simp only [laws_eqStringS.l0]
    exact ev_neg (by omega) (ev_ret _)
  | succ n ih =>
    intro i h0 hn
    refine ev_step ?_
    simp only [laws_eqStringS.l0]
    refine ev_pos (by omega) (ev_pos h0 (ev_pos (by omega) (ev_pos (by simp) ?_)))
    rw [w64 (x := i + 1) (by omega) (by omega)]
    exact ih (i + 1) (by omega) (by omega)
theorem eqStringS_ev (l : List ByteArray) (hl : l.length ≤ 9223372036854775807) : Ev (fun k => laws_eqStringS.f k l l) true := by
  unfold laws_eqStringS.f
  exact ev_pos rfl (eqStringS_l0 l hl l.length 0 (by omega) (by omega))

theorem bs_extract (s : ByteArray) (a b : Nat) : bs (s.extract a b) = ((bs s).drop a).take (b - a) := by
  unfold bs
  rw [ByteArray.data_extract, Array.toList_extract, ← List.map_drop, ← List.map_take]

theorem within_some (n lo hi : Int) : impl_within.f n lo hi = some (decide (lo ≤ n ∧ n ≤ hi)) := by
  unfold impl_within.f
  by_cases c : n ≥ lo
  · rw [if_pos c]
    simp [c]
  · rw [if_neg c]
    have c' : ¬ lo ≤ n := c
    simp [c']

theorem ev_ite {α : Type} {c : Prop} [Decidable c] {g f : Nat → Option α} {r : α} (h : c → Ev g r) (h' : ¬ c → Ev f r) : Ev (fun n => if c then g n else f n) r :=
  if hc : c then ev_pos hc (h hc) else ev_neg hc (h' hc)
def u8s (l : List UInt8) : List Int := l.map fun c => (c.toNat : Int)
def mkB (l : List UInt8) : ByteArray := ⟨l.toArray⟩
theorem bs_mk (l : List UInt8) : bs (mkB l) = u8s l := by simp [bs, mkB, u8s]
abbrev tl (s : ByteArray) : List UInt8 := s.data.toList
theorem tl_length (s : ByteArray) : (tl s).length = s.size := by
  show s.data.toList.length = s.size
  rw [Array.length_toList]
  rfl
theorem bt_u8 {s : ByteArray} {i : Int} (h0 : 0 ≤ i) (h1 : i < s.size) : bt s i = ((rdOf (0 : UInt8) (tl s) i).toNat : Int) := by
  have hl := tl_length s
  have h2 : i.toNat < (tl s).length := by omega
  rw [← bs_rd h0 h1]
  show (List.map _ (tl s)).getD i.toNat 0 = _
  rw [List.getD_eq_getElem?_getD, List.getElem?_map, List.getElem?_eq_getElem h2]
  unfold rdOf
  rw [List.getD_eq_getElem?_getD, List.getElem?_eq_getElem h2]
  rfl
def okC (b : UInt8) : Bool := decide (32 ≤ b.toNat ∧ b.toNat ≤ 126)
theorem sp_ok (b : UInt8) (h : okC b = true) : Lib.isSp b = decide (b.toNat = 32) := by
  have h := of_decide_eq_true h
  unfold Lib.isSp
  have e : ∀ n : Nat, n < 256 → (b == UInt8.ofNat n) = decide (b.toNat = n) := by
    intro n hn
    rw [Bool.eq_iff_iff, beq_iff_eq, decide_eq_true_iff]
    constructor
    · rintro rfl
      rw [UInt8.toNat_ofNat']
      omega
    · intro hb
      rw [← hb]
      simp
  have e9 := e 9 (by decide)
  have e10 := e 10 (by decide)
  have e11 := e 11 (by decide)
  have e12 := e 12 (by decide)
  have e13 := e 13 (by decide)
  have e32 := e 32 (by decide)
  rw [show (9 : UInt8) = UInt8.ofNat 9 from rfl, show (10 : UInt8) = UInt8.ofNat 10 from rfl, show (11 : UInt8) = UInt8.ofNat 11 from rfl, show (12 : UInt8) = UInt8.ofNat 12 from rfl, show (13 : UInt8) = UInt8.ofNat 13 from rfl, show (32 : UInt8) = UInt8.ofNat 32 from rfl, e9, e10, e11, e12, e13, e32]
  rw [decide_eq_false (show ¬ b.toNat = 9 by omega), decide_eq_false (show ¬ b.toNat = 10 by omega), decide_eq_false (show ¬ b.toNat = 11 by omega), decide_eq_false (show ¬ b.toNat = 12 by omega), decide_eq_false (show ¬ b.toNat = 13 by omega)]
  rfl
def fin (p : List ByteArray) : List ByteArray × Bool := if (p.length : Int) > 10 then ([], false) else (p, true)
def partsV (s : ByteArray) : List ByteArray × Bool := if (s.size : Int) > 600 then ([], false) else if (tl s).all okC = true then fin ((Lib.fields (tl s)).map mkB) else ([], false)
theorem impl_PartsOf_l0 (s : ByteArray) (hs : s.size ≤ 600) (n : Nat) : ∀ i : Int, 0 ≤ i → (s.size : Int) - i = n → ((tl s).take i.toNat).all okC = true → Ev (fun k => impl_PartsOf.l0 k s i) (if ((tl s).drop i.toNat).all okC = true then fin ((Lib.fields (tl s)).map mkB) else ([], false)) := by
  have hl := tl_length s
  induction n with
  | zero =>
    intro i h0 hn ht
    refine ev_step ?_
    simp only [impl_PartsOf.l0]
    rw [List.drop_eq_nil_of_le (by omega)]
    rw [List.take_of_length_le (by omega)] at ht
    have hf : strings_Fields.f s = some ((Lib.fields (tl s)).map mkB) := by
      unfold strings_Fields.f
      rw [if_pos]
      · rfl
      · refine ⟨by omega, List.all_eq_true.2 (fun b hb => decide_eq_true ?_)⟩
        have := of_decide_eq_true (List.all_eq_true.1 ht b hb)
        omega
    refine ev_neg (by omega) (ev_bindc hf ?_)
    show Ev _ (fin _)
    unfold fin
    refine ev_ite (fun c => ?_) (fun c => ?_)
    · rw [if_pos c]
      exact ev_ret _
    · rw [if_neg c]
      exact ev_ret _
  | succ n ih =>
    intro i h0 hn ht
    refine ev_step ?_
    simp only [impl_PartsOf.l0]
    have hb := bt_u8 (s := s) h0 (by omega)
    have hlt := (rdOf (0 : UInt8) (tl s) i).toNat_lt
    rw [drop_rd (d := (0 : UInt8)) h0 (by omega), List.all_cons, w64 (x := bt s i) (by omega) (by omega), w64 (x := i + 1) (by omega) (by omega)]
    have hk : decide (32 ≤ bt s i ∧ bt s i ≤ 126) = okC (rdOf (0 : UInt8) (tl s) i) := by
      unfold okC
      rw [decide_eq_decide]
      omega
    refine ev_pos (by omega) (ev_pos h0 (ev_bindc (within_some _ _ _) ?_))
    rw [hk]
    refine ev_ite (fun c => ?_) (fun c => ?_)
    · rw [c, Bool.true_and]
      refine ih (i + 1) (by omega) (by omega) ?_
      rw [take_rd (0 : UInt8) h0 (by omega), List.all_append, ht, List.all_cons, c]
      rfl
    · rw [Bool.not_eq_true] at c
      rw [c, Bool.false_and]
      exact ev_ret _
theorem impl_PartsOf_ev (s : ByteArray) : Ev (fun k => impl_PartsOf.f k s) (partsV s) := by
  unfold impl_PartsOf.f partsV
  refine ev_ite (fun c => ?_) (fun c => ?_)
  · rw [if_pos c]
    exact ev_ret _
  · rw [if_neg c]
    exact impl_PartsOf_l0 s (by omega) s.size 0 (by omega) (by omega) rfl
theorem cut_eq (s : ByteArray) (b i : Int) (h0 : 0 ≤ b) (h1 : b ≤ i) (h2 : i ≤ s.size) : s.extract b.toNat i.toNat = mkB (((tl s).take i.toNat).drop b.toNat) := by
  refine bs_inj ?_
  rw [bs_extract, bs_mk]
  unfold u8s
  rw [List.map_drop, List.map_take, List.drop_take]
  rfl
theorem spec_PartsOf_end (s : ByteArray) (hs : s.size ≤ 600) (out : List ByteArray) (b : Int) : Ev (fun k => spec_PartsOf.l0 k s out b ((s.size : Int) + 1)) (fin out) := by
  refine ev_step ?_
  simp only [spec_PartsOf.l0]
  refine ev_neg (by omega) ?_
  unfold fin
  refine ev_ite (fun c => ?_) (fun c => ?_)
  · rw [if_pos c]
    exact ev_ret _
  · rw [if_neg c]
    exact ev_ret _
theorem spec_PartsOf_l0 (s : ByteArray) (hs : s.size ≤ 600) (n : Nat) : ∀ (i b : Int) (out : List ByteArray), 0 ≤ b → b ≤ i → (s.size : Int) - i = n → (out.length : Int) ≤ i →
    Ev (fun k => spec_PartsOf.l0 k s out b i) (if ((tl s).drop i.toNat).all okC = true then fin (out ++ (Lib.fieldsGo (((tl s).take i.toNat).drop b.toNat) ((tl s).drop i.toNat)).map mkB) else ([], false)) := by
  have hl := tl_length s
  induction n with
  | zero =>
    intro i b out h0 h1 hn ho
    obtain rfl : i = s.size := by omega
    refine ev_step ?_
    simp only [spec_PartsOf.l0]
    refine ev_pos (by omega) (ev_neg (by omega) (ev_step ?_))
    simp only [spec_PartsOf.j1]
    refine ev_neg (by simp) (ev_neg (by omega) (ev_step ?_))
    simp only [spec_PartsOf.j2]
    have hd : (tl s).drop (s.size : Int).toNat = [] := List.drop_eq_nil_of_le (by omega)
    rw [hd, w64 (x := (s.size : Int) + 1) (by omega) (by omega)]
    show Ev _ (fin _)
    refine ev_neg (by simp) (ev_ite (fun c => ?_) (fun c => ?_))
    · rw [show (Lib.fieldsGo (((tl s).take (s.size : Int).toNat).drop b.toNat) []) = [((tl s).take (s.size : Int).toNat).drop b.toNat] from ?_]
      · refine ev_pos h0 (ev_pos (by omega) (ev_pos (by omega) (ev_pos (by omega) ?_)))
        rw [cut_eq s b s.size h0 (by omega) (by omega)]
        exact spec_PartsOf_end s hs _ _
      · unfold Lib.fieldsGo
        rw [if_neg]
        rw [List.isEmpty_iff, List.drop_eq_nil_iff, List.length_take]
        omega
    · rw [show (Lib.fieldsGo (((tl s).take (s.size : Int).toNat).drop b.toNat) []) = [] from ?_]
      · rw [List.map_nil, List.append_nil]
        exact spec_PartsOf_end s hs _ _
      · unfold Lib.fieldsGo
        rw [if_pos]
        rw [List.isEmpty_iff, List.drop_eq_nil_iff, List.length_take]
        omega
  | succ n ih =>
    intro i b out h0 h1 hn ho
    have hi : 0 ≤ i := by omega
    have hb := bt_u8 (s := s) hi (by omega)
    have hlt := (rdOf (0 : UInt8) (tl s) i).toNat_lt
    have J : ∀ x, Ev (fun k => spec_PartsOf.j1 k s out b i true) (if (okC (rdOf (0 : UInt8) (tl s) i) && x) = true then fin (out ++ (Lib.fieldsGo (((tl s).take i.toNat).drop b.toNat) (rdOf (0 : UInt8) (tl s) i :: (tl s).drop (i + 1).toNat)).map mkB) else ([], false)) ∨ okC (rdOf (0 : UInt8) (tl s) i) = true := by
      intro x
      by_cases c : okC (rdOf (0 : UInt8) (tl s) i) = true
      · exact .inr c
      · rw [Bool.not_eq_true] at c
        refine .inl ?_
        rw [c, Bool.false_and]
        refine ev_step ?_
        simp only [spec_PartsOf.j1]
        exact ev_pos trivial (ev_ret _)
    have ok_iff : okC (rdOf (0 : UInt8) (tl s) i) = true ↔ (32 ≤ bt s i ∧ bt s i ≤ 126) := by
      unfold okC
      rw [decide_eq_true_iff]
      omega
    refine ev_step ?_
    simp only [spec_PartsOf.l0]
    rw [drop_rd (d := (0 : UInt8)) hi (by omega), List.all_cons]
    refine ev_pos (by omega) (ev_pos (by omega) (ev_pos hi (ev_ite (fun c => ?_) (fun c => ?_))))
    · rcases J (((tl s).drop (i + 1).toNat).all okC) with h | h
      · exact h
      · have := ok_iff.1 h
        omega
    · by_cases c2 : bt s i > 126
      · rw [decide_eq_true c2]
        rcases J (((tl s).drop (i + 1).toNat).all okC) with h | h
        · exact h
        · have := ok_iff.1 h
          omega
      · rw [decide_eq_false c2]
        have hok : okC (rdOf (0 : UInt8) (tl s) i) = true := ok_iff.2 ⟨by omega, by omega⟩
        have hsp := sp_ok _ hok
        rw [hok, Bool.true_and]
        refine ev_step ?_
        simp only [spec_PartsOf.j1]
        refine ev_neg (by simp) (ev_pos (by omega) (ev_pos hi (ev_step ?_)))
        simp only [spec_PartsOf.j2]
        rw [w64 (x := i + 1) (by omega) (by omega)]
        refine ev_ite (fun c3 => ?_) (fun c3 => ?_)
        · have c4 : ¬ bt s i = 32 := by simpa using c3
          have hs1 : Lib.isSp (rdOf (0 : UInt8) (tl s) i) = false := by
            rw [hsp]
            exact decide_eq_false (by omega)
          rw [Lib.fieldsGo_more _ _ _ hs1]
          have next := ih (i + 1) b out h0 (by omega) (by omega) (by omega)
          rw [take_rd (0 : UInt8) hi (by omega), List.drop_append_of_le_length (by rw [List.length_take]; omega)] at next
          exact next
        · have c4 : bt s i = 32 := by simpa using c3
          have hs1 : Lib.isSp (rdOf (0 : UInt8) (tl s) i) = true := by
            rw [hsp]
            exact decide_eq_true (by omega)
          have hnil : ((tl s).take (i + 1).toNat).drop (i + 1).toNat = [] := by
            rw [List.drop_eq_nil_iff, List.length_take]
            omega
          refine ev_ite (fun c5 => ?_) (fun c5 => ?_)
          · rw [Lib.fieldsGo_end _ _ _ hs1 (by intro he; rw [List.drop_eq_nil_iff, List.length_take] at he; omega), List.map_cons]
            have next := ih (i + 1) (i + 1) (out ++ [s.extract b.toNat i.toNat]) (by omega) (by omega) (by omega) (by simp; omega)
            rw [hnil, cut_eq s b i h0 h1 (by omega), List.append_assoc] at next
            rw [cut_eq s b i h0 h1 (by omega)]
            exact ev_pos h0 (ev_pos h1 (ev_pos (by omega) (ev_pos (by omega) next)))
          · have next := ih (i + 1) (i + 1) out (by omega) (by omega) (by omega) (by omega)
            rw [hnil] at next
            rw [show ((tl s).take i.toNat).drop b.toNat = [] by rw [List.drop_eq_nil_iff, List.length_take]; omega, Lib.fieldsGo_sp _ _ hs1]
            exact next
theorem spec_PartsOf_ev (s : ByteArray) : Ev (fun k => spec_PartsOf.f k s) (partsV s) := by
  unfold spec_PartsOf.f partsV
  refine ev_bindc rfl (ev_ite (fun c => ?_) (fun c => ?_))
  · rw [if_pos c]
    exact ev_ret _
  · rw [if_neg c]
    exact spec_PartsOf_l0 s (by omega) s.size 0 0 [] (by omega) (by omega) (by omega) (by simp)
theorem partsV_length (s : ByteArray) : (partsV s).1.length ≤ 10 := by
  unfold partsV fin
  split
  · simp
  · split
    · split
      · simp
      · rename_i h
        show List.length (List.map mkB (Lib.fields (tl s))) ≤ 10
        omega
    · simp
theorem FnExactPartsOf : laws_FnExactPartsOf.Pure := by
  intro s _
  refine Ev.rounds ?_
  unfold laws_FnExactPartsOf.f
  refine ev_ite (fun _ => ev_ret _) (fun _ => ?_)
  have h1 := spec_PartsOf_ev s
  have h2 := impl_PartsOf_ev s
  have hl := partsV_length s
  generalize partsV s = v at h1 h2 hl
  have he := eqStringS_ev v.1 (by omega)
  have hm := markStringS_ev v.1 1 (by omega) (by omega) (by omega)
  have hh := heldStringS_ev 1 v.1.length (by omega) (by omega) (by omega)
  refine Ev.bind h1 (Ev.bind h2 (Ev.bind he (ev_pos rfl (ev_step ?_))))
  simp only [laws_FnExactPartsOf.j0]
  refine ev_neg (by simp) (Ev.bind hm (Ev.bind hh (ev_neg (by omega) (ev_pos rfl (Ev.bind h2 (Ev.bind he (ev_pos rfl (ev_step ?_))))))))
  simp only [laws_FnExactPartsOf.j1]
  exact ev_neg (by simp) (Ev.bind hh (ev_neg (by omega) (ev_pos rfl (ev_ret _))))

end Go.Proofs.YtegeahiflkjhmaaDoor.Pure
