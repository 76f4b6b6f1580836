/- The program's Unsealed answers as the reference's at every text. No condition. -/
import Derived.Test.YtfgobagibkbocaaPFnExactUnsealedx2
set_option linter.unusedVariables false
set_option linter.unusedSimpArgs false
namespace Go.Proofs.Ytfgobagibkbocaa.Pure
open Go.RowKit Go.Proofs.Ytfgobagibkbocaa.PFnExactUnsealed Go.Proofs.YtfgobagibkbocaaW.PrintWords Go.Proofs.YtfgobagibkbocaaW.PrintLast Go.Proofs.YtfgobagibkbocaaW.PrintMore

theorem w64 {x : Int} (h0 : -9223372036854775808 ≤ x) (h1 : x ≤ 9223372036854775807) : wrap64 x = x := by
  unfold wrap64
  omega
theorem wf_i64 {x : Int} (h : (Lit.int .i64 x).wf = true) : -9223372036854775808 ≤ x ∧ x ≤ 9223372036854775807 := by
  simp [Lit.wf, IntKind.min, IntKind.max, IntKind.signed, IntKind.bits] at h
  omega

instance lawBA : LawfulBEq ByteArray where
  eq_of_beq {a b} h := by
    cases a
    cases b
    congr 1
    exact eq_of_beq (α := Array UInt8) h
  rfl {a} := by
    cases a
    exact BEq.rfl (α := Array UInt8)

/-! Rounds -/
theorem ev_step {α : Type} {g : Nat → Option α} {r : α} (h : Ev (fun k => g (k + 1)) r) : Ev g r := Ev.step (fun _ => rfl) h
theorem ev_ret {α : Type} (r : α) : Ev (fun _ => some r) r := ⟨0, fun _ _ => rfl⟩
theorem ev_pos {α : Type} {c : Prop} [Decidable c] {g f : Nat → Option α} {r : α} (h : c) (k : Ev g r) : Ev (fun n => if c then g n else f n) r :=
  Ev.congr (fun _ => if_pos h) k
theorem ev_neg {α : Type} {c : Prop} [Decidable c] {g f : Nat → Option α} {r : α} (h : ¬ c) (k : Ev f r) : Ev (fun n => if c then g n else f n) r :=
  Ev.congr (fun _ => if_neg h) k
theorem ev_bindc {α β : Type} {x : Option α} {f : Nat → α → Option β} {a : α} {r : β} (h : x = some a) (k : Ev (fun n => f n a) r) : Ev (fun n => x.bind (f n)) r := by
  subst h
  exact k
theorem ev_rpos {α : Type} {c : Prop} [Decidable c] {g : Nat → Option α} {a b : α} (h : c) (k : Ev g a) : Ev g (if c then a else b) := by
  rw [if_pos h]
  exact k
theorem ev_rneg {α : Type} {c : Prop} [Decidable c] {g : Nat → Option α} {a b : α} (h : ¬ c) (k : Ev g b) : Ev g (if c then a else b) := by
  rw [if_neg h]
  exact k
theorem ev_eq {α : Type} {g : Nat → Option α} {r r' : α} (h : r = r') (k : Ev g r) : Ev g r' := h ▸ k

/-! Lists and texts as lists of numbers -/
def bs (s : ByteArray) : List Int := s.data.toList.map fun c => (c.toNat : Int)
theorem bs_length (s : ByteArray) : (bs s).length = s.size := by
  unfold bs
  rw [List.length_map, Array.length_toList]
  rfl
theorem bs_range {s : ByteArray} {x : Int} (h : x ∈ bs s) : 0 ≤ x ∧ x < 256 := by
  unfold bs at h
  obtain ⟨c, _, rfl⟩ := List.mem_map.1 h
  have := c.toNat_lt
  omega
theorem bs_inj {a b : ByteArray} (h : bs a = bs b) : a = b := by
  have h2 : a.data.toList = b.data.toList := by
    have h3 := congrArg (List.map fun n : Int => UInt8.ofNat n.toNat) h
    unfold bs at h3
    rw [List.map_map, List.map_map] at h3
    have e : ∀ l : List UInt8, l.map ((fun n : Int => UInt8.ofNat n.toNat) ∘ fun c => (c.toNat : Int)) = l := by
      intro l
      induction l with
      | nil => rfl
      | cons c l ih =>
        rw [List.map_cons, ih]
        simp
    rwa [e, e] at h3
  cases a
  cases b
  congr 1
  exact Array.toList_inj.1 h2
theorem toList_eq_iff {a b : ByteArray} : a.toList = b.toList ↔ a = b := by
  constructor
  · intro h
    rw [ByteArray.toList_eq, ByteArray.toList_eq] at h
    cases a
    cases b
    congr 1
    exact Array.toList_inj.1 h
  · rintro rfl
    rfl
theorem drop_rd {α : Type} {d : α} {l : List α} {i : Int} (h0 : 0 ≤ i) (h1 : i < l.length) : l.drop i.toNat = rdOf d l i :: l.drop (i + 1).toNat := by
  have h2 : i.toNat < l.length := by omega
  rw [List.drop_eq_getElem_cons h2]
  unfold rdOf
  rw [List.getD_eq_getElem?_getD, List.getElem?_eq_getElem h2, show (i + 1).toNat = i.toNat + 1 by omega]
  rfl
theorem drop_end {α : Type} {l : List α} {i : Int} (h0 : 0 ≤ i) (h1 : ¬ i < l.length) : l.drop i.toNat = [] := List.drop_eq_nil_of_le (by omega)
theorem bs_rd {s : ByteArray} {i : Int} (h0 : 0 ≤ i) (h1 : i < s.size) : rdOf 0 (bs s) i = bt s i := by
  have h2 : i.toNat < s.size := by omega
  have h3 : i.toNat < s.data.toList.length := by
    rw [Array.length_toList]
    exact h2
  unfold rdOf bs bt
  rw [List.getD_eq_getElem?_getD, List.getElem?_map, List.getElem?_eq_getElem h3, dif_pos h2]
  rfl
theorem bs_drop {s : ByteArray} {i : Int} (h0 : 0 ≤ i) (h1 : i < s.size) : (bs s).drop i.toNat = bt s i :: (bs s).drop (i + 1).toNat := by
  rw [drop_rd (d := 0) h0 (by rw [bs_length]; exact h1), bs_rd h0 h1]
theorem bs_end {s : ByteArray} {i : Int} (h0 : 0 ≤ i) (h1 : ¬ i < s.size) : (bs s).drop i.toNat = [] := drop_end h0 (by rw [bs_length]; exact h1)
theorem strOf_bs (s : ByteArray) : strOfNums (bs s) = s := by
  have e : (bs s).map (fun n => UInt8.ofNat n.toNat) = s.data.toList := by
    unfold bs
    rw [List.map_map]
    conv => rhs; rw [← List.map_id s.data.toList]
    exact List.map_congr_left fun c _ => by simp
  unfold strOfNums
  rw [e]
theorem bs_strOf {l : List Int} (h : ∀ x ∈ l, 0 ≤ x ∧ x < 256) : bs (strOfNums l) = l := by
  unfold bs strOfNums
  rw [List.map_map]
  conv => rhs; rw [← List.map_id l]
  refine List.map_congr_left fun x hx => ?_
  obtain ⟨h0, h1⟩ := h x hx
  simp only [Function.comp_apply, UInt8.toNat_ofNat', id_eq]
  omega
theorem bs_append (a b : ByteArray) : bs (a ++ b) = bs a ++ bs b := by simp [bs]
theorem strOf_append (a b : List Int) : strOfNums (a ++ b) = strOfNums a ++ strOfNums b := by
  cases h : strOfNums a ++ strOfNums b
  rename_i d
  have := congrArg ByteArray.data h
  simp only [ByteArray.data_append] at this
  unfold strOfNums at this ⊢
  simp only [← this]
  simp
theorem ev_id {α : Type} {g : Nat → Option α} {r : α} (h : ∀ k, g k = some r) : Ev g r := ⟨0, fun k _ => h k⟩

def crcStep (x : Int) : Int := if (Int.tmod x 2) = 1 then Go.bits .xor .u32 ((Int.tdiv x 2) % 4294967296) 3558460437 else (Int.tdiv x 2) % 4294967296
def crcBits : Nat → Int → Int
  | 0, x => x
  | n + 1, x => crcBits n (crcStep x)
def crcByte (x : Int) (c : Int) : Int := crcBits 8 (Go.bits .xor .u32 x (c % 4294967296))
def crcL : Int → List Int → Int
  | x, [] => x
  | x, c :: l => crcL (crcByte x c) l
theorem spec_SumMore_l1 (s : ByteArray) (i : Int) (r : Int) (n : Nat) : ∀ (x j : Int), 0 ≤ j → 8 - j = n → Ev (fun k => spec_SumMore.l0 k (crcBits n x) s (wrap64 (i + 1))) r → Ev (fun k => spec_SumMore.l1 k x s i j) r := by
  induction n with
  | zero =>
    intro x j h0 hj h
    refine ev_step ?_
    simp only [spec_SumMore.l1]
    exact ev_neg (by omega) h
  | succ n ih =>
    intro x j h0 hj h
    refine ev_step ?_
    simp only [spec_SumMore.l1]
    refine ev_pos (by omega) ?_
    rw [w64 (x := j + 1) (by omega) (by omega)]
    have h2 := ih (crcStep x) (j + 1) (by omega) (by omega) h
    unfold crcStep at h2
    by_cases c : (Int.tmod x 2) = 1
    · rw [if_pos c] at h2
      exact ev_pos c h2
    · rw [if_neg c] at h2
      exact ev_neg c h2
theorem spec_SumMore_l0 (s : ByteArray) (hs : s.size ≤ 140737488351232) (n : Nat) : ∀ (x i : Int), 0 ≤ i → (s.size : Int) - i = n → Ev (fun k => spec_SumMore.l0 k x s i) (crcL x ((bs s).drop i.toNat)) := by
  induction n with
  | zero =>
    intro x i h0 hi
    refine ev_step ?_
    simp only [spec_SumMore.l0]
    rw [bs_end h0 (by omega)]
    exact ev_neg (by omega) (ev_ret _)
  | succ n ih =>
    intro x i h0 hi
    refine ev_step ?_
    simp only [spec_SumMore.l0]
    refine ev_pos (by omega) (ev_pos h0 (spec_SumMore_l1 s i _ 8 _ 0 (by omega) (by omega) ?_))
    rw [w64 (x := i + 1) (by omega) (by omega), bs_drop h0 (by omega)]
    exact ih (crcByte x (bt s i)) (i + 1) (by omega) (by omega)
theorem spec_SumMore_ev (x : Int) (s : ByteArray) (hs : s.size ≤ 140737488351232) : Ev (fun k => spec_SumMore.f k x s) (crcL x (bs s)) :=
  spec_SumMore_l0 s hs s.size x 0 (by omega) (by omega)
theorem impl_SumMore_l1 (s : ByteArray) (i : Int) (r : Int) (n : Nat) : ∀ (x j : Int), 0 ≤ j → 8 - j = n → Ev (fun k => impl_SumMore.l0 k (crcBits n x) s (wrap64 (i + 1))) r → Ev (fun k => impl_SumMore.l1 k x s i j) r := by
  induction n with
  | zero =>
    intro x j h0 hj h
    refine ev_step ?_
    simp only [impl_SumMore.l1]
    exact ev_neg (by omega) h
  | succ n ih =>
    intro x j h0 hj h
    refine ev_step ?_
    simp only [impl_SumMore.l1]
    refine ev_pos (by omega) ?_
    rw [w64 (x := j + 1) (by omega) (by omega)]
    have h2 := ih (crcStep x) (j + 1) (by omega) (by omega) h
    unfold crcStep at h2
    by_cases c : (Int.tmod x 2) = 1
    · rw [if_pos c] at h2
      exact ev_pos c h2
    · rw [if_neg c] at h2
      exact ev_neg c h2
theorem impl_SumMore_l0 (s : ByteArray) (hs : s.size ≤ 140737488351232) (n : Nat) : ∀ (x i : Int), 0 ≤ i → (s.size : Int) - i = n → Ev (fun k => impl_SumMore.l0 k x s i) (crcL x ((bs s).drop i.toNat)) := by
  induction n with
  | zero =>
    intro x i h0 hi
    refine ev_step ?_
    simp only [impl_SumMore.l0]
    rw [bs_end h0 (by omega)]
    exact ev_neg (by omega) (ev_ret _)
  | succ n ih =>
    intro x i h0 hi
    refine ev_step ?_
    simp only [impl_SumMore.l0]
    refine ev_pos (by omega) (ev_pos h0 (impl_SumMore_l1 s i _ 8 _ 0 (by omega) (by omega) ?_))
    rw [w64 (x := i + 1) (by omega) (by omega), bs_drop h0 (by omega)]
    exact ih (crcByte x (bt s i)) (i + 1) (by omega) (by omega)
theorem impl_SumMore_ev (x : Int) (s : ByteArray) (hs : s.size ≤ 140737488351232) : Ev (fun k => impl_SumMore.f k x s) (crcL x (bs s)) :=
  impl_SumMore_l0 s hs s.size x 0 (by omega) (by omega)

def crcOf (s : ByteArray) : Int := crcL 4294967295 (bs s)
theorem spec_SumOf_ev (s : ByteArray) (hs : s.size ≤ 140737488351232) : Ev (fun k => spec_SumOf.f k s) (crcOf s) :=
  Ev.bind (spec_SumMore_ev 4294967295 s hs) (ev_ret _)
theorem impl_SumOf_ev (s : ByteArray) (hs : s.size ≤ 140737488351232) : Ev (fun k => impl_SumOf.f k s) (crcOf s) :=
  Ev.bind (impl_SumMore_ev 4294967295 s hs) (ev_ret _)

/-- The four bytes of a word, the highest first. -/
def four (x : Int) : List Int := [(x / 16777216) % 256, (x / 65536) % 256, (x / 256) % 256, x % 256]
theorem impl_Sealed_ev {s : ByteArray} (h : s.size ≤ 20000) : Ev (fun k => impl_Sealed.f k s) (s ++ strOfNums (four (crcOf s)), true) := by
  unfold impl_Sealed.f
  refine ev_neg (by omega) (Ev.bind (impl_SumOf_ev s (by omega)) (ev_bindc rfl (ev_pos ?_ (ev_ret _))))
  rw [strOfNums_size]
  simp
  omega
theorem impl_Sealed_no {s : ByteArray} (h : ¬ s.size ≤ 20000) : Ev (fun k => impl_Sealed.f k s) ((⟨#[]⟩ : ByteArray), false) := by
  unfold impl_Sealed.f
  exact ev_pos (by omega) (ev_ret _)

theorem bs_extract (s : ByteArray) (a b : Nat) : bs (s.extract a b) = ((bs s).drop a).take (b - a) := by
  unfold bs
  rw [ByteArray.data_extract, Array.toList_extract, ← List.map_drop, ← List.map_take]

theorem drop_four (s : ByteArray) (h : 4 ≤ s.size) : s.extract 0 (s.size - 4) ++ s.extract (s.size - 4) s.size = s := by
  apply bs_inj
  rw [bs_append, bs_extract, bs_extract]
  have e := bs_length s
  rw [List.drop_zero, Nat.sub_zero, show s.size - (s.size - 4) = 4 by omega, List.take_of_length_le (l := (bs s).drop (s.size - 4)) (by simp; omega), List.take_append_drop]
theorem seal_iff (s : ByteArray) (h : 4 ≤ s.size) (x : Int) : s.extract 0 (s.size - 4) ++ strOfNums (four x) = s ↔ s.extract (s.size - 4) s.size = strOfNums (four x) := by
  constructor
  · intro e
    have e2 := (drop_four s h).trans e.symm
    have e3 := congrArg bs e2
    rw [bs_append, bs_append] at e3
    exact bs_inj (List.append_cancel_left e3)
  · intro e
    rw [← e]
    exact drop_four s h
def unsealP (s : ByteArray) : ByteArray × Bool :=
  if 4 ≤ s.size ∧ s.size ≤ 20004 ∧ s.extract (s.size - 4) s.size = strOfNums (four (crcOf (s.extract 0 (s.size - 4)))) then (s.extract 0 (s.size - 4), true) else ((⟨#[]⟩ : ByteArray), false)
theorem impl_Unsealed_ev (s : ByteArray) (hs : s.size ≤ 140737488351232) : Ev (fun k => impl_Unsealed.f k s) (unsealP s) := by
  unfold impl_Unsealed.f unsealP
  by_cases c : 4 ≤ s.size
  · rw [w64 (x := (s.size : Int) - 4) (by omega) (by omega)]
    refine ev_neg (by omega) (ev_pos (by omega) (ev_pos (by omega) ?_))
    rw [show ((s.size : Int) - 4).toNat = s.size - 4 by omega]
    have hz : (s.extract 0 (s.size - 4)).size = s.size - 4 := by rw [ByteArray.size_extract]; omega
    by_cases c2 : s.size ≤ 20004
    · refine Ev.bind (impl_Sealed_ev (s := s.extract 0 (s.size - 4)) (by omega)) (ev_pos rfl ?_)
      have hi := seal_iff s c (crcOf (s.extract 0 (s.size - 4)))
      by_cases c3 : s.extract (s.size - 4) s.size = strOfNums (four (crcOf (s.extract 0 (s.size - 4))))
      · refine ev_rpos ⟨c, c2, c3⟩ ?_
        exact ev_pos (toList_eq_iff.2 (hi.2 c3)) (ev_ret _)
      · refine ev_rneg (fun h => c3 h.2.2) ?_
        exact ev_neg (fun h => c3 (hi.1 (toList_eq_iff.1 h))) (ev_ret _)
    · refine ev_rneg (fun h => c2 h.2.1) ?_
      exact Ev.bind (impl_Sealed_no (s := s.extract 0 (s.size - 4)) (by omega)) (ev_neg (by simp) (ev_ret _))
  · refine ev_rneg (fun h => c h.1) ?_
    exact ev_pos (by omega) (ev_ret _)

theorem l02Four_some (x : Int) : spec_l02Four.f x = some (strOfNums (four x)) := rfl

theorem spec_Unsealed_ev (s : ByteArray) (hs : s.size ≤ 140737488351232) : Ev (fun k => spec_Unsealed.f k s) (unsealP s) := by
  unfold spec_Unsealed.f unsealP
  rw [w64 (x := (s.size : Int) - 4) (by omega) (by omega)]
  by_cases c : 4 ≤ s.size
  · refine ev_neg (by omega) ?_
    by_cases c2 : s.size ≤ 20004
    · refine ev_neg (by omega) (ev_pos (by omega) (ev_pos (by omega) ?_))
      rw [show ((s.size : Int) - 4).toNat = s.size - 4 by omega]
      have hz : (s.extract 0 (s.size - 4)).size = s.size - 4 := by rw [ByteArray.size_extract]; omega
      refine Ev.bind (spec_SumOf_ev _ (by omega)) (ev_bindc (l02Four_some _) ?_)
      by_cases c3 : s.extract (s.size - 4) s.size = strOfNums (four (crcOf (s.extract 0 (s.size - 4))))
      · refine ev_rpos ⟨c, c2, c3⟩ ?_
        exact ev_pos (toList_eq_iff.2 c3) (ev_ret _)
      · refine ev_rneg (fun h => c3 h.2.2) ?_
        exact ev_neg (fun h => c3 (toList_eq_iff.1 h)) (ev_ret _)
    · refine ev_rneg (fun h => c2 h.2.1) ?_
      exact ev_pos (by omega) (ev_ret _)
  · refine ev_rneg (fun h => c h.1) ?_
    exact ev_pos (by omega) (ev_ret _)
theorem FnExactUnsealed : laws_FnExactUnsealed.Pure := by
  intro s hs
  refine Ev.rounds ?_
  unfold laws_FnExactUnsealed.f
  by_cases c : (s.size : Int) > 1048576
  · exact ev_pos c (ev_ret _)
  · refine ev_neg c (Ev.bind (spec_Unsealed_ev s hs) (Ev.bind (impl_Unsealed_ev s hs) ?_))
    exact ev_pos rfl (ev_neg (by simp) (ev_ret _))

end Go.Proofs.Ytfgobagibkbocaa.Pure
