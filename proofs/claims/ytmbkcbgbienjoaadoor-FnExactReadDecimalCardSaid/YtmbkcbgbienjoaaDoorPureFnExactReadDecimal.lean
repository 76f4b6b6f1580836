/- The program's ReadDecimal answers as the reference's at every text. No condition beyond the law's own bound and the variables that the row lists. -/
import Derived.Test.YtmbkcbgbienjoaaDoorPFnExactReadDecimalx3
set_option linter.unusedVariables false
set_option linter.unusedSimpArgs false
namespace Go.Proofs.YtmbkcbgbienjoaaDoor.Pure
open Go.RowKit Go.Proofs.YtmbkcbgbienjoaaDoor.PFnExactReadDecimal Go.Proofs.YtmbkcbgbienjoaaDoorW.PrintWords Go.Proofs.YtmbkcbgbienjoaaDoorW.PrintLast Go.Proofs.YtmbkcbgbienjoaaDoorW.PrintMore

theorem w64 {x : Int} (h0 : -9223372036854775808 ≤ x) (h1 : x ≤ 9223372036854775807) : wrap64 x = x := by
  unfold wrap64
  omega
theorem wf_i64 {x : Int} (h : (Lit.int .i64 x).wf = true) : -9223372036854775808 ≤ x ∧ x ≤ 9223372036854775807 := by
  simp [Lit.wf, IntKind.min, IntKind.max, IntKind.signed, IntKind.bits] at h
  omega

instance lawBA : LawfulBEq ByteArray where
  eq_of_beq {a b} h := by
    cases a
    cases b
    congr 1
    exact eq_of_beq (α := Array UInt8) h
  rfl {a} := by
    cases a
    exact BEq.rfl (α := Array UInt8)

/-! Rounds -/
theorem ev_step {α : Type} {g : Nat → Option α} {r : α} (h : Ev (fun k => g (k + 1)) r) : Ev g r := Ev.step (fun _ => rfl) h
theorem ev_ret {α : Type} (r : α) : Ev (fun _ => some r) r := ⟨0, fun _ _ => rfl⟩
theorem ev_pos {α : Type} {c : Prop} [Decidable c] {g f : Nat → Option α} {r : α} (h : c) (k : Ev g r) : Ev (fun n => if c then g n else f n) r :=
  Ev.congr (fun _ => if_pos h) k
theorem ev_neg {α : Type} {c : Prop} [Decidable c] {g f : Nat → Option α} {r : α} (h : ¬ c) (k : Ev f r) : Ev (fun n => if c then g n else f n) r :=
  Ev.congr (fun _ => if_neg h) k
theorem ev_bindc {α β : Type} {x : Option α} {f : Nat → α → Option β} {a : α} {r : β} (h : x = some a) (k : Ev (fun n => f n a) r) : Ev (fun n => x.bind (f n)) r := by
  subst h
  exact k
theorem ev_rpos {α : Type} {c : Prop} [Decidable c] {g : Nat → Option α} {a b : α} (h : c) (k : Ev g a) : Ev g (if c then a else b) := by
  rw [if_pos h]
  exact k
theorem ev_rneg {α : Type} {c : Prop} [Decidable c] {g : Nat → Option α} {a b : α} (h : ¬ c) (k : Ev g b) : Ev g (if c then a else b) := by
  rw [if_neg h]
  exact k
theorem ev_eq {α : Type} {g : Nat → Option α} {r r' : α} (h : r = r') (k : Ev g r) : Ev g r' := h ▸ k

/-! Lists and texts as lists of numbers -/
def bs (s : ByteArray) : List Int := s.data.toList.map fun c => (c.toNat : Int)
theorem bs_length (s : ByteArray) : (bs s).length = s.size := by
  unfold bs
  rw [List.length_map, Array.length_toList]
  rfl
theorem bs_range {s : ByteArray} {x : Int} (h : x ∈ bs s) : 0 ≤ x ∧ x < 256 := by
  unfold bs at h
  obtain ⟨c, _, rfl⟩ := List.mem_map.1 h
  have := c.toNat_lt
  omega
theorem bs_inj {a b : ByteArray} (h : bs a = bs b) : a = b := by
  have h2 : a.data.toList = b.data.toList := by
    have h3 := congrArg (List.map fun n : Int => UInt8.ofNat n.toNat) h
    unfold bs at h3
    rw [List.map_map, List.map_map] at h3
    have e : ∀ l : List UInt8, l.map ((fun n : Int => UInt8.ofNat n.toNat) ∘ fun c => (c.toNat : Int)) = l := by
      intro l
      induction l with
      | nil => rfl
      | cons c l ih =>
        rw [List.map_cons, ih]
        simp
    rwa [e, e] at h3
  cases a
  cases b
  congr 1
  exact Array.toList_inj.1 h2
theorem toList_eq_iff {a b : ByteArray} : a.toList = b.toList ↔ a = b := by
  constructor
  · intro h
    rw [ByteArray.toList_eq, ByteArray.toList_eq] at h
    cases a
    cases b
    congr 1
    exact Array.toList_inj.1 h
  · rintro rfl
    rfl
theorem drop_rd {α : Type} {d : α} {l : List α} {i : Int} (h0 : 0 ≤ i) (h1 : i < l.length) : l.drop i.toNat = rdOf d l i :: l.drop (i + 1).toNat := by
  have h2 : i.toNat < l.length := by omega
  rw [List.drop_eq_getElem_cons h2]
  unfold rdOf
  rw [List.getD_eq_getElem?_getD, List.getElem?_eq_getElem h2, show (i + 1).toNat = i.toNat + 1 by omega]
  rfl
theorem drop_end {α : Type} {l : List α} {i : Int} (h0 : 0 ≤ i) (h1 : ¬ i < l.length) : l.drop i.toNat = [] := List.drop_eq_nil_of_le (by omega)
theorem bs_rd {s : ByteArray} {i : Int} (h0 : 0 ≤ i) (h1 : i < s.size) : rdOf 0 (bs s) i = bt s i := by
  have h2 : i.toNat < s.size := by omega
  have h3 : i.toNat < s.data.toList.length := by
    rw [Array.length_toList]
    exact h2
  unfold rdOf bs bt
  rw [List.getD_eq_getElem?_getD, List.getElem?_map, List.getElem?_eq_getElem h3, dif_pos h2]
  rfl
theorem bs_drop {s : ByteArray} {i : Int} (h0 : 0 ≤ i) (h1 : i < s.size) : (bs s).drop i.toNat = bt s i :: (bs s).drop (i + 1).toNat := by
  rw [drop_rd (d := 0) h0 (by rw [bs_length]; exact h1), bs_rd h0 h1]
theorem bs_end {s : ByteArray} {i : Int} (h0 : 0 ≤ i) (h1 : ¬ i < s.size) : (bs s).drop i.toNat = [] := drop_end h0 (by rw [bs_length]; exact h1)
theorem strOf_bs (s : ByteArray) : strOfNums (bs s) = s := by
  have e : (bs s).map (fun n => UInt8.ofNat n.toNat) = s.data.toList := by
    unfold bs
    rw [List.map_map]
    conv => rhs; rw [← List.map_id s.data.toList]
    exact List.map_congr_left fun c _ => by simp
  unfold strOfNums
  rw [e]
theorem bs_strOf {l : List Int} (h : ∀ x ∈ l, 0 ≤ x ∧ x < 256) : bs (strOfNums l) = l := by
  unfold bs strOfNums
  rw [List.map_map]
  conv => rhs; rw [← List.map_id l]
  refine List.map_congr_left fun x hx => ?_
  obtain ⟨h0, h1⟩ := h x hx
  simp only [Function.comp_apply, UInt8.toNat_ofNat', id_eq]
  omega
theorem bs_append (a b : ByteArray) : bs (a ++ b) = bs a ++ bs b := by simp [bs]
theorem strOf_append (a b : List Int) : strOfNums (a ++ b) = strOfNums a ++ strOfNums b := by
  cases h : strOfNums a ++ strOfNums b
  rename_i d
  have := congrArg ByteArray.data h
  simp only [ByteArray.data_append] at this
  unfold strOfNums at this ⊢
  simp only [← this]
  simp
theorem ev_id {α : Type} {g : Nat → Option α} {r : α} (h : ∀ k, g k = some r) : Ev g r := ⟨0, fun k _ => h k⟩

theorem ev_ite {α : Type} {c : Prop} [Decidable c] {g f : Nat → Option α} {r : α} (h : c → Ev g r) (h' : ¬ c → Ev f r) : Ev (fun n => if c then g n else f n) r :=
  if hc : c then ev_pos hc (h hc) else ev_neg hc (h' hc)

def digL (u : Nat) : List UInt8 := if u = 0 then [] else Go.Lib.decDigits u
theorem digL_step {u : Nat} (h : u ≠ 0) : digL u = digL (u / 10) ++ [UInt8.ofNat (48 + u % 10)] := by
  unfold digL
  rw [if_neg h, Go.Lib.decDigits]
  by_cases c : u < 10
  · rw [dif_pos c, if_pos (by omega), Nat.mod_eq_of_lt c]
    rfl
  · rw [dif_neg c, if_neg (by omega)]
def u8s (l : List UInt8) : List Int := l.map fun c => (c.toNat : Int)
theorem u8s_dig (v : Nat) (h : v < 10) : u8s [UInt8.ofNat (48 + v)] = [48 + (v : Int)] := by
  have e : (UInt8.ofNat (48 + v)).toNat = 48 + v := by
    rw [UInt8.toNat_ofNat']
    omega
  unfold u8s
  rw [List.map_cons, List.map_nil, e]
  simp
theorem fig_some (v : Nat) (h : v < 10) : spec_l01Figure.f (v : Int) = some (48 + (v : Int)) := by
  unfold spec_l01Figure.f
  rw [if_pos (by omega), w64 (by omega) (by omega), Option.some.injEq]
  omega
theorem spec_Decimal_l0 (neg : Bool) (d : Nat) : ∀ (x : Int) (s : ByteArray), x.natAbs < 10 ^ d → s.size + d ≤ 1000 → -9223372036854775808 ≤ x → x ≤ 9223372036854775807 →
    ∃ r, Ev (fun k => spec_Decimal.l0 k x neg s) r ∧ bs r = (if neg = true then [45] else []) ++ (u8s (digL x.natAbs) ++ bs s) := by
  have done : ∀ s : ByteArray, s.size ≤ 1000 → ∃ r, Ev (fun k => spec_Decimal.l0 k 0 neg s) r ∧ bs r = (if neg = true then [45] else []) ++ (u8s (digL (0 : Int).natAbs) ++ bs s) := by
    intro s hs
    cases neg
    · refine ⟨s, ev_step ?_, rfl⟩
      simp only [spec_Decimal.l0]
      exact ev_pos trivial (ev_neg (by decide) (ev_ret _))
    · refine ⟨(⟨#[45]⟩ : ByteArray) ++ s, ev_step ?_, ?_⟩
      · simp only [spec_Decimal.l0]
        exact ev_pos trivial (ev_pos trivial (ev_pos (by omega) (ev_ret _)))
      · rw [bs_append]
        rfl
  induction d with
  | zero =>
    intro x s hx hs _ _
    obtain rfl : x = 0 := by omega
    exact done s (by omega)
  | succ d ih =>
    intro x s hx hs h0 h1
    by_cases c : x = 0
    · subst c
      exact done s (by omega)
    · rw [Nat.pow_succ] at hx
      have hq : (Int.tdiv x 10).natAbs = x.natAbs / 10 := by rw [Int.natAbs_tdiv]; rfl
      have ht : (Int.tmod x 10).natAbs = x.natAbs % 10 := by rw [Int.natAbs_tmod]; rfl
      have hsz : ∀ v : Int, (strOfNums [v] ++ s).size = 1 + s.size := fun v => by rw [ByteArray.size_append, strOfNums_size]; rfl
      have hv : x.natAbs % 10 < 10 := Nat.mod_lt _ (by decide)
      obtain ⟨r, e, er⟩ := ih (Int.tdiv x 10) (strOfNums [48 + ((x.natAbs % 10 : Nat) : Int)] ++ s) (by omega) (by rw [hsz]; omega) (by omega) (by omega)
      refine ⟨r, ev_step ?_, ?_⟩
      · simp only [spec_Decimal.l0]
        refine ev_neg c ?_
        rw [w64 (x := Int.tdiv x 10) (by omega) (by omega)]
        have hz : (strOfNums [48 + ((x.natAbs % 10 : Nat) : Int)]).size + s.size ≤ 9223372036854775807 := by
          rw [← ByteArray.size_append, hsz]
          omega
        refine ev_ite (fun c2 => ?_) (fun c2 => ?_)
        · rw [w64 (x := -(Int.tmod x 10)) (by omega) (by omega), show -(Int.tmod x 10) = ((x.natAbs % 10 : Nat) : Int) by omega]
          exact ev_bindc (fig_some _ hv) (ev_bindc rfl (ev_pos hz e))
        · rw [show Int.tmod x 10 = ((x.natAbs % 10 : Nat) : Int) by omega]
          exact ev_bindc (fig_some _ hv) (ev_bindc rfl (ev_pos hz e))
      · rw [er, hq, digL_step (u := x.natAbs) (by omega), bs_append, bs_strOf (by intro y hy; rw [List.mem_singleton.1 hy]; omega), show u8s (digL (x.natAbs / 10) ++ [UInt8.ofNat (48 + x.natAbs % 10)]) = u8s (digL (x.natAbs / 10)) ++ u8s [UInt8.ofNat (48 + x.natAbs % 10)] from List.map_append, u8s_dig _ hv, List.append_assoc]
theorem bs_mk (l : List UInt8) : bs ⟨l.toArray⟩ = u8s l := by simp [bs, u8s]
theorem spec_Decimal_ev (n : Int) (h0 : -9223372036854775808 ≤ n) (h1 : n ≤ 9223372036854775807) : Ev (fun k => spec_Decimal.f k n) ⟨(Go.Lib.itoa n).toArray⟩ := by
  unfold spec_Decimal.f
  refine ev_ite (fun c => ?_) (fun c => ?_)
  · subst c
    refine ev_eq ?_ (ev_ret _)
    unfold Go.Lib.itoa
    rw [if_neg (by decide), Go.Lib.decDigits_one (by decide)]
    rfl
  · obtain ⟨r, e, er⟩ := spec_Decimal_l0 (decide (n < 0)) 19 n ⟨#[]⟩ (by omega) (by decide) h0 h1
    refine ev_eq (bs_inj ?_) e
    rw [er, show bs (⟨#[]⟩ : ByteArray) = [] from rfl, List.append_nil, bs_mk]
    unfold Go.Lib.itoa digL
    rw [if_neg (show ¬ n.natAbs = 0 by omega)]
    by_cases c2 : n < 0
    · rw [decide_eq_true c2, if_pos rfl, if_pos c2]
      show _ = u8s ([45] ++ Go.Lib.decDigits n.natAbs)
      rfl
    · rw [decide_eq_false c2, if_neg (by decide), if_neg c2, show n.toNat = n.natAbs by omega, List.nil_append]

def valL (acc : Nat) (l : List UInt8) : Nat := l.foldl (fun a c => a * 10 + (c.toNat - 48)) acc
def digC (c : UInt8) : Bool := decide (48 ≤ c.toNat ∧ c.toNat ≤ 57)
theorem dig_toNat (v : Nat) (h : v < 10) : (UInt8.ofNat (48 + v)).toNat = 48 + v := by
  rw [UInt8.toNat_ofNat']
  omega
theorem dd_step {u : Nat} (h : ¬ u < 10) : Go.Lib.decDigits u = Go.Lib.decDigits (u / 10) ++ [UInt8.ofNat (48 + u % 10)] := by
  rw [Go.Lib.decDigits, dif_neg h]
theorem dd_facts (u : Nat) : (Go.Lib.decDigits u).all digC = true ∧ valL 0 (Go.Lib.decDigits u) = u := by
  induction u using Nat.strongRecOn with
  | _ u ih =>
    by_cases h : u < 10
    · rw [Go.Lib.decDigits_one h]
      have e := dig_toNat u h
      refine ⟨?_, ?_⟩
      · rw [List.all_cons, List.all_nil, Bool.and_true]
        exact decide_eq_true (by omega)
      · show 0 * 10 + ((UInt8.ofNat (48 + u)).toNat - 48) = u
        omega
    · obtain ⟨h1, h2⟩ := ih (u / 10) (by omega)
      have e := dig_toNat (u % 10) (by omega)
      rw [dd_step h]
      refine ⟨?_, ?_⟩
      · rw [List.all_append, h1, List.all_cons, List.all_nil, Bool.and_true, Bool.true_and]
        exact decide_eq_true (by omega)
      · unfold valL at h2 ⊢
        rw [List.foldl_append, h2]
        show u / 10 * 10 + ((UInt8.ofNat (48 + u % 10)).toNat - 48) = u
        omega
theorem dd_len (d : Nat) : ∀ u : Nat, u < 10 ^ (d + 1) → (Go.Lib.decDigits u).length ≤ d + 1 := by
  induction d with
  | zero =>
    intro u h
    rw [Go.Lib.decDigits_one (by omega)]
    simp
  | succ d ih =>
    intro u h
    by_cases c : u < 10
    · rw [Go.Lib.decDigits_one c]
      simp
    · rw [Nat.pow_succ] at h
      rw [dd_step c, List.length_append]
      have := ih (u / 10) (by omega)
      simp
      omega
theorem dd_ne (u : Nat) : Go.Lib.decDigits u ≠ [] := by
  by_cases c : u < 10
  · rw [Go.Lib.decDigits_one c]
    simp
  · rw [dd_step c]
    simp
theorem valL_le (l : List UInt8) : ∀ acc, acc ≤ valL acc l := by
  induction l with
  | nil => intro acc; exact Nat.le_refl _
  | cons c l ih =>
    intro acc
    have := ih (acc * 10 + (c.toNat - 48))
    show acc ≤ valL (acc * 10 + (c.toNat - 48)) l
    omega
theorem parse_val (l : List UInt8) : ∀ acc, l.all digC = true → valL acc l < 1844674407370955162 → Go.Lib.parseUint10 acc l = .ok (valL acc l) := by
  induction l with
  | nil => intro acc _ _; rfl
  | cons c l ih =>
    intro acc h hv
    rw [List.all_cons, Bool.and_eq_true] at h
    have hc := of_decide_eq_true h.1
    have hv : valL (acc * 10 + (c.toNat - 48)) l < 1844674407370955162 := hv
    have hle := valL_le l (acc * 10 + (c.toNat - 48))
    unfold Go.Lib.parseUint10
    rw [if_pos hc, if_neg (by omega), if_neg (by omega)]
    exact ih _ h.2 hv
theorem atoi_dd (u : Nat) (h : u < 1844674407370955162) : Go.Lib.atoiAll (Go.Lib.decDigits u) = .ok (u : Int) := by
  obtain ⟨h1, h2⟩ := dd_facts u
  have hne := dd_ne u
  generalize Go.Lib.decDigits u = l at h1 h2 hne
  cases l with
  | nil => exact absurd rfl hne
  | cons c r =>
    have hc : digC c = true := by
      rw [List.all_cons, Bool.and_eq_true] at h1
      exact h1.1
    have hc := of_decide_eq_true hc
    have hm : Go.Lib.parseMag (c :: r) = .ok u := by
      unfold Go.Lib.parseMag
      rw [if_neg hne, parse_val _ 0 h1 (by rw [h2]; exact h), h2]
    unfold Go.Lib.atoiAll
    dsimp only
    rw [if_neg (show ¬ (c.toNat = 43 ∨ c.toNat = 45) by omega), hm]
    dsimp only
    rw [if_neg (by omega), if_neg (by omega), if_neg (by omega)]
/-- The text of a number. -/
def numT (n : Int) : ByteArray := ⟨(Go.Lib.itoa n).toArray⟩
theorem numT_list (n : Int) : (numT n).data.toList = Go.Lib.itoa n := rfl
theorem itoa_pos (n : Int) (h : 0 ≤ n) : Go.Lib.itoa n = Go.Lib.decDigits n.toNat := by
  unfold Go.Lib.itoa
  rw [if_neg (by omega)]

abbrev tl (s : ByteArray) : List UInt8 := s.data.toList
theorem tl_length (s : ByteArray) : (tl s).length = s.size := by
  show s.data.toList.length = s.size
  rw [Array.length_toList]
  rfl
theorem bt_u8 {s : ByteArray} {i : Int} (h0 : 0 ≤ i) (h1 : i < s.size) : bt s i = ((rdOf (0 : UInt8) (tl s) i).toNat : Int) := by
  have hl := tl_length s
  have h2 : i.toNat < (tl s).length := by omega
  rw [← bs_rd h0 h1]
  show (List.map _ (tl s)).getD i.toNat 0 = _
  rw [List.getD_eq_getElem?_getD, List.getElem?_map, List.getElem?_eq_getElem h2]
  unfold rdOf
  rw [List.getD_eq_getElem?_getD, List.getElem?_eq_getElem h2]
  rfl

def isNum (s : ByteArray) (n : Int) : Prop := s = numT n ∧ 0 ≤ n ∧ n ≤ 1000000000
theorem num_facts {s : ByteArray} {n : Int} (h : isNum s n) : Lib.atoiAll (tl s) = .ok n ∧ s.size ≤ 10 ∧ (tl s).all digC = true ∧ valL 0 (tl s) = n.toNat := by
  obtain ⟨rfl, h0, h1⟩ := h
  have e : tl (numT n) = Go.Lib.decDigits n.toNat := (numT_list n).trans (itoa_pos n h0)
  have hf := dd_facts n.toNat
  have hl := tl_length (numT n)
  rw [e] at hl
  have h2 := dd_len 9 n.toNat (by omega)
  refine ⟨?_, by omega, by rw [e]; exact hf.1, by rw [e]; exact hf.2⟩
  rw [e, atoi_dd n.toNat (by omega), show ((n.toNat : Nat) : Int) = n by omega]
theorem readV_pos {s : ByteArray} {n : Int} (h : isNum s n) : readV s = (n, true) := by
  unfold readV
  rw [show Lib.atoiAll s.data.toList = .ok n from (num_facts h).1]
  exact if_pos ⟨h.1.symm, h.2⟩
theorem readV_neg {s : ByteArray} (h : ∀ n, ¬ isNum s n) : readV s = (0, false) := by
  unfold readV
  split
  · rename_i v _
    exact if_neg (fun q => h v ⟨q.1.symm, q.2⟩)
  · rfl
def finN (s : ByteArray) (n : Nat) : Int × Bool := if (n : Int) > 1000000000 then (0, false) else if (numT n).toList = s.toList then ((n : Int), true) else (0, false)
def specV (s : ByteArray) : Int × Bool := if (s.size : Int) > 10 then (0, false) else if (tl s).all digC = true then finN s (valL 0 (tl s)) else (0, false)
theorem specV_pos {s : ByteArray} {n : Int} (h : isNum s n) : specV s = (n, true) := by
  obtain ⟨_, h2, h3, h4⟩ := num_facts h
  obtain ⟨h5, h0, h1⟩ := h
  unfold specV finN
  rw [if_neg (by omega), if_pos h3, h4, if_neg (by omega), show ((n.toNat : Nat) : Int) = n by omega, if_pos (toList_eq_iff.2 h5.symm)]
theorem specV_neg {s : ByteArray} (h : ∀ n, ¬ isNum s n) : specV s = (0, false) := by
  unfold specV finN
  split
  · rfl
  · split
    · split
      · rfl
      · split
        · rename_i g e
          exact absurd ⟨(toList_eq_iff.1 e).symm, by omega, by omega⟩ (h _)
        · rfl
    · rfl
theorem specV_eq (s : ByteArray) : specV s = readV s := by
  by_cases h : ∃ n, isNum s n
  · obtain ⟨n, hn⟩ := h
    rw [specV_pos hn, readV_pos hn]
  · have h2 : ∀ n, ¬ isNum s n := fun n hn => h ⟨n, hn⟩
    rw [specV_neg h2, readV_neg h2]

theorem spec_RD_fin (s : ByteArray) (n : Nat) : Ev (fun k => if (n : Int) > 1000000000 then (some ((0 : Int), false)) else ((spec_Decimal.f k (n : Int)).bind fun t109 => (if t109.toList = s.toList then (some ((n : Int), true)) else (some (0, false))))) (finN s n) := by
  unfold finN
  refine ev_ite (fun c => ?_) (fun c => ?_)
  · rw [if_pos c]
    exact ev_ret _
  · rw [if_neg c]
    refine Ev.bind (spec_Decimal_ev n (by omega) (by omega)) ?_
    refine ev_ite (fun c2 => ?_) (fun c2 => ?_)
    · rw [if_pos (show (numT n).toList = s.toList from c2)]
      exact ev_ret _
    · rw [if_neg (show ¬ (numT n).toList = s.toList from c2)]
      exact ev_ret _
theorem spec_RD_l0 (s : ByteArray) (hs : s.size ≤ 10) (d : Nat) : ∀ (i acc : Nat), (s.size : Int) - i = d → acc + 1 ≤ 10 ^ i → Ev (fun k => spec_ReadDecimal.l0 k s acc i) (if ((tl s).drop i).all digC = true then finN s (valL acc ((tl s).drop i)) else (0, false)) := by
  have hl := tl_length s
  induction d with
  | zero =>
    intro i acc hd ha
    refine ev_step ?_
    simp only [spec_ReadDecimal.l0]
    rw [List.drop_eq_nil_of_le (by omega)]
    exact ev_neg (by omega) (spec_RD_fin s acc)
  | succ d ih =>
    intro i acc hd ha
    refine ev_step ?_
    simp only [spec_ReadDecimal.l0]
    have h0 : (0 : Int) ≤ (i : Int) := by omega
    have hb := bt_u8 (s := s) (i := (i : Int)) h0 (by omega)
    have hlt := (rdOf (0 : UInt8) (tl s) (i : Int)).toNat_lt
    have hp : 10 ^ i ≤ 10 ^ 10 := Nat.pow_le_pow_right (by decide) (by omega)
    have hdr : (tl s).drop i = rdOf (0 : UInt8) (tl s) (i : Int) :: (tl s).drop (i + 1) := drop_rd (d := (0 : UInt8)) (l := tl s) (i := (i : Int)) h0 (by omega)
    rw [hdr, List.all_cons]
    refine ev_pos (by omega) (ev_pos h0 ?_)
    by_cases c : digC (rdOf (0 : UInt8) (tl s) (i : Int)) = true
    · have hc := of_decide_eq_true c
      rw [c, Bool.true_and]
      refine ev_neg (by omega) (ev_neg (by omega) ?_)
      have next := ih (i + 1) (acc * 10 + ((rdOf (0 : UInt8) (tl s) (i : Int)).toNat - 48)) (by omega) (by rw [Nat.pow_succ]; omega)
      rw [w64 (x := 10 * (acc : Int)) (by omega) (by omega), w64 (x := bt s (i : Int)) (by omega) (by omega), w64 (x := 10 * (acc : Int) + bt s (i : Int)) (by omega) (by omega), w64 (x := 10 * (acc : Int) + bt s (i : Int) - 48) (by omega) (by omega), w64 (x := (i : Int) + 1) (by omega) (by omega)]
      rw [show ((acc * 10 + ((rdOf (0 : UInt8) (tl s) (i : Int)).toNat - 48) : Nat) : Int) = 10 * (acc : Int) + bt s (i : Int) - 48 by omega, show ((i + 1 : Nat) : Int) = (i : Int) + 1 by omega] at next
      exact next
    · have hc : ¬ (48 ≤ (rdOf (0 : UInt8) (tl s) (i : Int)).toNat ∧ (rdOf (0 : UInt8) (tl s) (i : Int)).toNat ≤ 57) := fun q => c (decide_eq_true q)
      rw [Bool.not_eq_true] at c
      rw [c, Bool.false_and]
      exact ev_ite (fun _ => ev_ret _) (fun g => ev_pos (by omega) (ev_ret _))
theorem spec_RD_ev (s : ByteArray) : Ev (fun k => spec_ReadDecimal.f k s) (readV s) := by
  rw [← specV_eq]
  unfold spec_ReadDecimal.f specV
  refine ev_ite (fun c => ?_) (fun c => ?_)
  · rw [if_pos c]
    exact ev_ret _
  · rw [if_neg c]
    exact spec_RD_l0 s (by omega) s.size 0 0 (by omega) (by decide)
theorem FnExactReadDecimal : laws_FnExactReadDecimal.Pure := by
  intro s _
  refine Ev.rounds ?_
  unfold laws_FnExactReadDecimal.f
  refine ev_ite (fun _ => ev_ret _) (fun c => ?_)
  have hi : impl_ReadDecimal.f 0 s = some (readV s) := if_pos (by omega)
  have hs := spec_RD_ev s
  generalize readV s = v at hi hs
  exact Ev.bind hs (ev_bindc hi (ev_pos rfl (ev_neg (by simp) (ev_ret _))))

end Go.Proofs.YtmbkcbgbienjoaaDoor.Pure
