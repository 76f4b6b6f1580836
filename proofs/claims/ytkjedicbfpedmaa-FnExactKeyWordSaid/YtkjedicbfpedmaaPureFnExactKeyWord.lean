/- The program's KeyWord answers as the reference's at every text. No condition. -/
import Derived.Test.YtkjedicbfpedmaaPFnExactKeyWordx1
set_option linter.unusedVariables false
set_option linter.unusedSimpArgs false
namespace Go.Proofs.Ytkjedicbfpedmaa.Pure
open Go.RowKit Go.Proofs.Ytkjedicbfpedmaa.PFnExactKeyWord Go.Proofs.YtkjedicbfpedmaaW.PrintWords Go.Proofs.YtkjedicbfpedmaaW.PrintLast Go.Proofs.YtkjedicbfpedmaaW.PrintMore

theorem w64 {x : Int} (h0 : -9223372036854775808 ≤ x) (h1 : x ≤ 9223372036854775807) : wrap64 x = x := by
  unfold wrap64
  omega
theorem wf_i64 {x : Int} (h : (Lit.int .i64 x).wf = true) : -9223372036854775808 ≤ x ∧ x ≤ 9223372036854775807 := by
  simp [Lit.wf, IntKind.min, IntKind.max, IntKind.signed, IntKind.bits] at h
  omega

instance lawBA : LawfulBEq ByteArray where
  eq_of_beq {a b} h := by
    cases a
    cases b
    congr 1
    exact eq_of_beq (α := Array UInt8) h
  rfl {a} := by
    cases a
    exact BEq.rfl (α := Array UInt8)

/-! Rounds -/
theorem ev_step {α : Type} {g : Nat → Option α} {r : α} (h : Ev (fun k => g (k + 1)) r) : Ev g r := Ev.step (fun _ => rfl) h
theorem ev_ret {α : Type} (r : α) : Ev (fun _ => some r) r := ⟨0, fun _ _ => rfl⟩
theorem ev_pos {α : Type} {c : Prop} [Decidable c] {g f : Nat → Option α} {r : α} (h : c) (k : Ev g r) : Ev (fun n => if c then g n else f n) r :=
  Ev.congr (fun _ => if_pos h) k
theorem ev_neg {α : Type} {c : Prop} [Decidable c] {g f : Nat → Option α} {r : α} (h : ¬ c) (k : Ev f r) : Ev (fun n => if c then g n else f n) r :=
  Ev.congr (fun _ => if_neg h) k
theorem ev_bindc {α β : Type} {x : Option α} {f : Nat → α → Option β} {a : α} {r : β} (h : x = some a) (k : Ev (fun n => f n a) r) : Ev (fun n => x.bind (f n)) r := by
  subst h
  exact k
theorem ev_eq {α : Type} {g : Nat → Option α} {r r' : α} (h : r = r') (k : Ev g r) : Ev g r' := h ▸ k

/-! Lists and texts as lists of numbers -/
def bs (s : ByteArray) : List Int := s.data.toList.map fun c => (c.toNat : Int)
theorem bs_length (s : ByteArray) : (bs s).length = s.size := by
  unfold bs
  rw [List.length_map, Array.length_toList]
  rfl
theorem bs_range {s : ByteArray} {x : Int} (h : x ∈ bs s) : 0 ≤ x ∧ x < 256 := by
  unfold bs at h
  obtain ⟨c, _, rfl⟩ := List.mem_map.1 h
  have := c.toNat_lt
  omega
theorem bs_inj {a b : ByteArray} (h : bs a = bs b) : a = b := by
  have h2 : a.data.toList = b.data.toList := by
    have h3 := congrArg (List.map fun n : Int => UInt8.ofNat n.toNat) h
    unfold bs at h3
    rw [List.map_map, List.map_map] at h3
    have e : ∀ l : List UInt8, l.map ((fun n : Int => UInt8.ofNat n.toNat) ∘ fun c => (c.toNat : Int)) = l := by
      intro l
      induction l with
      | nil => rfl
      | cons c l ih =>
        rw [List.map_cons, ih]
        simp
    rwa [e, e] at h3
  cases a
  cases b
  congr 1
  exact Array.toList_inj.1 h2
theorem toList_eq_iff {a b : ByteArray} : a.toList = b.toList ↔ a = b := by
  constructor
  · intro h
    rw [ByteArray.toList_eq, ByteArray.toList_eq] at h
    cases a
    cases b
    congr 1
    exact Array.toList_inj.1 h
  · rintro rfl
    rfl
theorem drop_rd {α : Type} {d : α} {l : List α} {i : Int} (h0 : 0 ≤ i) (h1 : i < l.length) : l.drop i.toNat = rdOf d l i :: l.drop (i + 1).toNat := by
  have h2 : i.toNat < l.length := by omega
  rw [List.drop_eq_getElem_cons h2]
  unfold rdOf
  rw [List.getD_eq_getElem?_getD, List.getElem?_eq_getElem h2, show (i + 1).toNat = i.toNat + 1 by omega]
  rfl
theorem drop_end {α : Type} {l : List α} {i : Int} (h0 : 0 ≤ i) (h1 : ¬ i < l.length) : l.drop i.toNat = [] := List.drop_eq_nil_of_le (by omega)
theorem bs_rd {s : ByteArray} {i : Int} (h0 : 0 ≤ i) (h1 : i < s.size) : rdOf 0 (bs s) i = bt s i := by
  have h2 : i.toNat < s.size := by omega
  have h3 : i.toNat < s.data.toList.length := by
    rw [Array.length_toList]
    exact h2
  unfold rdOf bs bt
  rw [List.getD_eq_getElem?_getD, List.getElem?_map, List.getElem?_eq_getElem h3, dif_pos h2]
  rfl
theorem bs_drop {s : ByteArray} {i : Int} (h0 : 0 ≤ i) (h1 : i < s.size) : (bs s).drop i.toNat = bt s i :: (bs s).drop (i + 1).toNat := by
  rw [drop_rd (d := 0) h0 (by rw [bs_length]; exact h1), bs_rd h0 h1]
theorem bs_end {s : ByteArray} {i : Int} (h0 : 0 ≤ i) (h1 : ¬ i < s.size) : (bs s).drop i.toNat = [] := drop_end h0 (by rw [bs_length]; exact h1)
theorem strOf_bs (s : ByteArray) : strOfNums (bs s) = s := by
  have e : (bs s).map (fun n => UInt8.ofNat n.toNat) = s.data.toList := by
    unfold bs
    rw [List.map_map]
    conv => rhs; rw [← List.map_id s.data.toList]
    exact List.map_congr_left fun c _ => by simp
  unfold strOfNums
  rw [e]
theorem bs_strOf {l : List Int} (h : ∀ x ∈ l, 0 ≤ x ∧ x < 256) : bs (strOfNums l) = l := by
  unfold bs strOfNums
  rw [List.map_map]
  conv => rhs; rw [← List.map_id l]
  refine List.map_congr_left fun x hx => ?_
  obtain ⟨h0, h1⟩ := h x hx
  simp only [Function.comp_apply, UInt8.toNat_ofNat', id_eq]
  omega
theorem bs_append (a b : ByteArray) : bs (a ++ b) = bs a ++ bs b := by simp [bs]
theorem strOf_append (a b : List Int) : strOfNums (a ++ b) = strOfNums a ++ strOfNums b := by
  cases h : strOfNums a ++ strOfNums b
  rename_i d
  have := congrArg ByteArray.data h
  simp only [ByteArray.data_append] at this
  unfold strOfNums at this ⊢
  simp only [← this]
  simp

/-- The first place of a text in a list, counted from j on; -1 without it. -/
def idxT (s : ByteArray) : List ByteArray → Int → Int
  | [], _ => -1
  | y :: l, j => if y = s then j else idxT s l (j + 1)
theorem idxT_mem (s : ByteArray) : ∀ (l : List ByteArray) (j : Int), 0 ≤ j → (idxT s l j ≥ 0 ↔ s ∈ l)
  | [], j, _ => by simp [idxT]
  | y :: l, j, h => by
    unfold idxT
    by_cases c : y = s
    · rw [if_pos c]
      simp [c, h]
    · rw [if_neg c, idxT_mem s l (j + 1) (by omega)]
      have c' : ¬ s = y := fun h => c h.symm
      simp [c']
theorem slices_Index_l0 (l : List ByteArray) (s : ByteArray) (hl : l.length ≤ 140737488351232) (n : Nat) : ∀ (i : Int), 0 ≤ i → (l.length : Int) - i = n → Ev (fun k => slices_Index_string_string.l0 k l s (l.length : Int) i) (idxT s (l.drop i.toNat) i) := by
  induction n with
  | zero =>
    intro i h0 hi
    refine ev_step ?_
    simp only [slices_Index_string_string.l0]
    rw [drop_end h0 (by omega)]
    exact ev_neg (by omega) (ev_ret _)
  | succ n ih =>
    intro i h0 hi
    refine ev_step ?_
    simp only [slices_Index_string_string.l0]
    refine ev_pos (by omega) (ev_pos h0 (ev_pos (by omega) ?_))
    rw [drop_rd (d := ByteArray.empty) h0 (by omega)]
    unfold idxT
    by_cases c : s.toList = (rdOf ByteArray.empty l i).toList
    · refine ev_pos c (ev_eq ?_ (ev_ret _))
      rw [toList_eq_iff] at c
      rw [if_pos c.symm]
    · refine ev_neg c ?_
      rw [w64 (x := i + 1) (by omega) (by omega)]
      refine ev_eq ?_ (ih (i + 1) (by omega) (by omega))
      rw [toList_eq_iff] at c
      rw [if_neg (fun h => c h.symm)]
theorem slices_Index_ev (l : List ByteArray) (s : ByteArray) (hl : l.length ≤ 140737488351232) : Ev (fun k => slices_Index_string_string.f k l s) (idxT s l 0) :=
  slices_Index_l0 l s hl l.length 0 (by omega) (by omega)
theorem slices_Contains_ev (l : List ByteArray) (s : ByteArray) (hl : l.length ≤ 140737488351232) : Ev (fun k => slices_Contains_string_string.f k l s) (decide (s ∈ l)) := by
  unfold slices_Contains_string_string.f
  refine Ev.bind (slices_Index_ev l s hl) (ev_eq ?_ (ev_ret _))
  rw [decide_eq_decide]
  exact idxT_mem s l 0 (by omega)

def keyList : List ByteArray := [(⟨#[109, 111, 110, 105, 116, 111, 114]⟩ : ByteArray), (⟨#[118, 97, 114]⟩ : ByteArray), (⟨#[113, 117, 101, 117, 101]⟩ : ByteArray), (⟨#[101, 110, 116, 114, 121]⟩ : ByteArray), (⟨#[112, 114, 111, 99, 101, 115, 115]⟩ : ByteArray), (⟨#[117, 115, 101, 115]⟩ : ByteArray), (⟨#[98, 101, 103, 105, 110]⟩ : ByteArray), (⟨#[101, 110, 100]⟩ : ByteArray), (⟨#[105, 102]⟩ : ByteArray), (⟨#[116, 104, 101, 110]⟩ : ByteArray), (⟨#[101, 108, 115, 101]⟩ : ByteArray), (⟨#[119, 104, 105, 108, 101]⟩ : ByteArray), (⟨#[100, 111]⟩ : ByteArray), (⟨#[99, 97, 108, 108]⟩ : ByteArray), (⟨#[116, 111]⟩ : ByteArray), (⟨#[112, 114, 105, 110, 116]⟩ : ByteArray), (⟨#[114, 101, 97, 100]⟩ : ByteArray), (⟨#[100, 101, 108, 97, 121]⟩ : ByteArray), (⟨#[99, 111, 110, 116, 105, 110, 117, 101]⟩ : ByteArray), (⟨#[115, 107, 105, 112]⟩ : ByteArray), (⟨#[97, 110, 100]⟩ : ByteArray), (⟨#[111, 114]⟩ : ByteArray), (⟨#[110, 111, 116]⟩ : ByteArray)]
def isKey (s : ByteArray) : Bool := decide (s ∈ keyList)
theorem spec_KeyWord_l0 (s : ByteArray) (l : List ByteArray) (hl : l.length ≤ 1000) (n : Nat) : ∀ (i : Int), 0 ≤ i → (l.length : Int) - i = n → Ev (fun k => spec_KeyWord.l0 k s l i) (decide (s ∈ l.drop i.toNat)) := by
  induction n with
  | zero =>
    intro i h0 hi
    refine ev_step ?_
    simp only [spec_KeyWord.l0]
    rw [drop_end h0 (by omega)]
    exact ev_neg (by omega) (ev_eq (by simp) (ev_ret _))
  | succ n ih =>
    intro i h0 hi
    refine ev_step ?_
    simp only [spec_KeyWord.l0]
    refine ev_pos (by omega) (ev_pos h0 ?_)
    rw [drop_rd (d := ByteArray.empty) h0 (by omega)]
    by_cases c : (rdOf ByteArray.empty l i).toList = s.toList
    · refine ev_pos c (ev_eq ?_ (ev_ret _))
      rw [toList_eq_iff] at c
      simp [c]
    · refine ev_neg c ?_
      rw [w64 (x := i + 1) (by omega) (by omega)]
      refine ev_eq ?_ (ih (i + 1) (by omega) (by omega))
      rw [toList_eq_iff] at c
      have c' : ¬ s = rdOf ByteArray.empty l i := fun h => c h.symm
      simp [c']
theorem spec_KeyWord_ev (s : ByteArray) : Ev (fun k => spec_KeyWord.f k s) (isKey s) := by
  unfold spec_KeyWord.f spec_l04Keys.f
  exact ev_bindc (a := keyList) rfl (spec_KeyWord_l0 s keyList (by decide) keyList.length 0 (by omega) (by simp))
theorem impl_KeyWord_ev (s : ByteArray) : Ev (fun k => impl_KeyWord.f k s) (isKey s) := by
  unfold impl_KeyWord.f
  exact Ev.bind (slices_Contains_ev keyList s (by decide)) (ev_ret _)

theorem FnExactKeyWord : laws_FnExactKeyWord.Pure := by
  intro a0 hs
  refine Ev.rounds ?_
  unfold laws_FnExactKeyWord.f
  by_cases c : (a0.size : Int) > 1048576
  · exact ev_pos c (ev_ret _)
  · refine ev_neg c (Ev.bind (spec_KeyWord_ev a0) (Ev.bind (impl_KeyWord_ev a0) ?_))
    exact ev_neg (by simp) (ev_ret _)

end Go.Proofs.Ytkjedicbfpedmaa.Pure
