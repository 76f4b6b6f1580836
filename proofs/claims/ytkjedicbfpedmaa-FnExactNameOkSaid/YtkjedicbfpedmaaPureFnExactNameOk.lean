/- The program's NameOk answers as the reference's at every text. No condition. -/
import Derived.Test.YtkjedicbfpedmaaPFnExactNameOkx1
set_option linter.unusedVariables false
set_option linter.unusedSimpArgs false
namespace Go.Proofs.Ytkjedicbfpedmaa.Pure
open Go.RowKit Go.Proofs.Ytkjedicbfpedmaa.PFnExactNameOk Go.Proofs.YtkjedicbfpedmaaW.PrintWords Go.Proofs.YtkjedicbfpedmaaW.PrintLast Go.Proofs.YtkjedicbfpedmaaW.PrintMore

theorem w64 {x : Int} (h0 : -9223372036854775808 ≤ x) (h1 : x ≤ 9223372036854775807) : wrap64 x = x := by
  unfold wrap64
  omega
theorem wf_i64 {x : Int} (h : (Lit.int .i64 x).wf = true) : -9223372036854775808 ≤ x ∧ x ≤ 9223372036854775807 := by
  simp [Lit.wf, IntKind.min, IntKind.max, IntKind.signed, IntKind.bits] at h
  omega

instance lawBA : LawfulBEq ByteArray where
  eq_of_beq {a b} h := by
    cases a
    cases b
    congr 1
    exact eq_of_beq (α := Array UInt8) h
  rfl {a} := by
    cases a
    exact BEq.rfl (α := Array UInt8)

/-! Rounds -/
theorem ev_step {α : Type} {g : Nat → Option α} {r : α} (h : Ev (fun k => g (k + 1)) r) : Ev g r := Ev.step (fun _ => rfl) h
theorem ev_ret {α : Type} (r : α) : Ev (fun _ => some r) r := ⟨0, fun _ _ => rfl⟩
theorem ev_pos {α : Type} {c : Prop} [Decidable c] {g f : Nat → Option α} {r : α} (h : c) (k : Ev g r) : Ev (fun n => if c then g n else f n) r :=
  Ev.congr (fun _ => if_pos h) k
theorem ev_neg {α : Type} {c : Prop} [Decidable c] {g f : Nat → Option α} {r : α} (h : ¬ c) (k : Ev f r) : Ev (fun n => if c then g n else f n) r :=
  Ev.congr (fun _ => if_neg h) k
theorem ev_bindc {α β : Type} {x : Option α} {f : Nat → α → Option β} {a : α} {r : β} (h : x = some a) (k : Ev (fun n => f n a) r) : Ev (fun n => x.bind (f n)) r := by
  subst h
  exact k
theorem ev_rpos {α : Type} {c : Prop} [Decidable c] {g : Nat → Option α} {a b : α} (h : c) (k : Ev g a) : Ev g (if c then a else b) := by
  rw [if_pos h]
  exact k
theorem ev_rneg {α : Type} {c : Prop} [Decidable c] {g : Nat → Option α} {a b : α} (h : ¬ c) (k : Ev g b) : Ev g (if c then a else b) := by
  rw [if_neg h]
  exact k
theorem ev_eq {α : Type} {g : Nat → Option α} {r r' : α} (h : r = r') (k : Ev g r) : Ev g r' := h ▸ k

/-! Lists and texts as lists of numbers -/
def bs (s : ByteArray) : List Int := s.data.toList.map fun c => (c.toNat : Int)
theorem bs_length (s : ByteArray) : (bs s).length = s.size := by
  unfold bs
  rw [List.length_map, Array.length_toList]
  rfl
theorem bs_range {s : ByteArray} {x : Int} (h : x ∈ bs s) : 0 ≤ x ∧ x < 256 := by
  unfold bs at h
  obtain ⟨c, _, rfl⟩ := List.mem_map.1 h
  have := c.toNat_lt
  omega
theorem bs_inj {a b : ByteArray} (h : bs a = bs b) : a = b := by
  have h2 : a.data.toList = b.data.toList := by
    have h3 := congrArg (List.map fun n : Int => UInt8.ofNat n.toNat) h
    unfold bs at h3
    rw [List.map_map, List.map_map] at h3
    have e : ∀ l : List UInt8, l.map ((fun n : Int => UInt8.ofNat n.toNat) ∘ fun c => (c.toNat : Int)) = l := by
      intro l
      induction l with
      | nil => rfl
      | cons c l ih =>
        rw [List.map_cons, ih]
        simp
    rwa [e, e] at h3
  cases a
  cases b
  congr 1
  exact Array.toList_inj.1 h2
theorem toList_eq_iff {a b : ByteArray} : a.toList = b.toList ↔ a = b := by
  constructor
  · intro h
    rw [ByteArray.toList_eq, ByteArray.toList_eq] at h
    cases a
    cases b
    congr 1
    exact Array.toList_inj.1 h
  · rintro rfl
    rfl
theorem drop_rd {α : Type} {d : α} {l : List α} {i : Int} (h0 : 0 ≤ i) (h1 : i < l.length) : l.drop i.toNat = rdOf d l i :: l.drop (i + 1).toNat := by
  have h2 : i.toNat < l.length := by omega
  rw [List.drop_eq_getElem_cons h2]
  unfold rdOf
  rw [List.getD_eq_getElem?_getD, List.getElem?_eq_getElem h2, show (i + 1).toNat = i.toNat + 1 by omega]
  rfl
theorem drop_end {α : Type} {l : List α} {i : Int} (h0 : 0 ≤ i) (h1 : ¬ i < l.length) : l.drop i.toNat = [] := List.drop_eq_nil_of_le (by omega)
theorem bs_rd {s : ByteArray} {i : Int} (h0 : 0 ≤ i) (h1 : i < s.size) : rdOf 0 (bs s) i = bt s i := by
  have h2 : i.toNat < s.size := by omega
  have h3 : i.toNat < s.data.toList.length := by
    rw [Array.length_toList]
    exact h2
  unfold rdOf bs bt
  rw [List.getD_eq_getElem?_getD, List.getElem?_map, List.getElem?_eq_getElem h3, dif_pos h2]
  rfl
theorem bs_drop {s : ByteArray} {i : Int} (h0 : 0 ≤ i) (h1 : i < s.size) : (bs s).drop i.toNat = bt s i :: (bs s).drop (i + 1).toNat := by
  rw [drop_rd (d := 0) h0 (by rw [bs_length]; exact h1), bs_rd h0 h1]
theorem bs_end {s : ByteArray} {i : Int} (h0 : 0 ≤ i) (h1 : ¬ i < s.size) : (bs s).drop i.toNat = [] := drop_end h0 (by rw [bs_length]; exact h1)
theorem strOf_bs (s : ByteArray) : strOfNums (bs s) = s := by
  have e : (bs s).map (fun n => UInt8.ofNat n.toNat) = s.data.toList := by
    unfold bs
    rw [List.map_map]
    conv => rhs; rw [← List.map_id s.data.toList]
    exact List.map_congr_left fun c _ => by simp
  unfold strOfNums
  rw [e]
theorem bs_strOf {l : List Int} (h : ∀ x ∈ l, 0 ≤ x ∧ x < 256) : bs (strOfNums l) = l := by
  unfold bs strOfNums
  rw [List.map_map]
  conv => rhs; rw [← List.map_id l]
  refine List.map_congr_left fun x hx => ?_
  obtain ⟨h0, h1⟩ := h x hx
  simp only [Function.comp_apply, UInt8.toNat_ofNat', id_eq]
  omega
theorem bs_append (a b : ByteArray) : bs (a ++ b) = bs a ++ bs b := by simp [bs]
theorem strOf_append (a b : List Int) : strOfNums (a ++ b) = strOfNums a ++ strOfNums b := by
  cases h : strOfNums a ++ strOfNums b
  rename_i d
  have := congrArg ByteArray.data h
  simp only [ByteArray.data_append] at this
  unfold strOfNums at this ⊢
  simp only [← this]
  simp
theorem ev_id {α : Type} {g : Nat → Option α} {r : α} (h : ∀ k, g k = some r) : Ev g r := ⟨0, fun k _ => h k⟩

/-- How many of the first elements pass a test. -/
def runL (p : Int → Bool) : List Int → Nat
  | [] => 0
  | c :: l => if p c = true then runL p l + 1 else 0
theorem runL_le (p : Int → Bool) : ∀ l, runL p l ≤ l.length
  | [] => Nat.le_refl _
  | c :: l => by
    have := runL_le p l
    unfold runL
    split
    · simp
      omega
    · omega
theorem runL_all (p : Int → Bool) : ∀ l, runL p l = l.length ↔ l.all p = true
  | [] => by simp [runL]
  | c :: l => by
    have h := runL_all p l
    unfold runL
    by_cases g : p c = true
    · rw [if_pos g]
      simp [g, h]
    · rw [if_neg g]
      simp [g]

def keyList : List ByteArray := [(⟨#[109, 111, 110, 105, 116, 111, 114]⟩ : ByteArray), (⟨#[118, 97, 114]⟩ : ByteArray), (⟨#[113, 117, 101, 117, 101]⟩ : ByteArray), (⟨#[101, 110, 116, 114, 121]⟩ : ByteArray), (⟨#[112, 114, 111, 99, 101, 115, 115]⟩ : ByteArray), (⟨#[117, 115, 101, 115]⟩ : ByteArray), (⟨#[98, 101, 103, 105, 110]⟩ : ByteArray), (⟨#[101, 110, 100]⟩ : ByteArray), (⟨#[105, 102]⟩ : ByteArray), (⟨#[116, 104, 101, 110]⟩ : ByteArray), (⟨#[101, 108, 115, 101]⟩ : ByteArray), (⟨#[119, 104, 105, 108, 101]⟩ : ByteArray), (⟨#[100, 111]⟩ : ByteArray), (⟨#[99, 97, 108, 108]⟩ : ByteArray), (⟨#[116, 111]⟩ : ByteArray), (⟨#[112, 114, 105, 110, 116]⟩ : ByteArray), (⟨#[114, 101, 97, 100]⟩ : ByteArray), (⟨#[100, 101, 108, 97, 121]⟩ : ByteArray), (⟨#[99, 111, 110, 116, 105, 110, 117, 101]⟩ : ByteArray), (⟨#[115, 107, 105, 112]⟩ : ByteArray), (⟨#[97, 110, 100]⟩ : ByteArray), (⟨#[111, 114]⟩ : ByteArray), (⟨#[110, 111, 116]⟩ : ByteArray)]
def isKey (s : ByteArray) : Bool := decide (s ∈ keyList)

def isLet (c : Int) : Bool := decide (97 ≤ c ∧ c ≤ 122)
def nameP (s : ByteArray) : Bool := decide (1 ≤ s.size ∧ s.size ≤ 8) && (bs s).all isLet && !isKey s

theorem impl_letter_some (c : Int) : impl_letter.f c = some (isLet c) := by
  unfold impl_letter.f isLet
  by_cases g : c ≥ 97
  · rw [if_pos g]
    simp [g]
  · rw [if_neg g]
    have g' : ¬ 97 ≤ c := g
    simp [g']
theorem run_letter_l0 (s : ByteArray) (hs : s.size ≤ 140737488351232) (n : Nat) : ∀ i : Int, 0 ≤ i → i ≤ s.size → (s.size : Int) - i = n → Ev (fun k => impl_run_impl_letter.l0 k s i) (i + runL isLet ((bs s).drop i.toNat)) := by
  induction n with
  | zero =>
    intro i h0 h1 hn
    refine ev_step ?_
    simp only [impl_run_impl_letter.l0]
    rw [bs_end h0 (by omega)]
    exact ev_neg (by omega) (ev_eq (by simp [runL]) (ev_ret _))
  | succ n ih =>
    intro i h0 h1 hn
    refine ev_step ?_
    simp only [impl_run_impl_letter.l0]
    rw [bs_drop h0 (by omega)]
    refine ev_pos (by omega) (ev_pos h0 (ev_bindc (impl_letter_some _) ?_))
    unfold runL
    by_cases g : isLet (bt s i) = true
    · rw [if_pos g, w64 (x := i + 1) (by omega) (by omega)]
      exact ev_pos g (ev_eq (by omega) (ih (i + 1) (by omega) (by omega) (by omega)))
    · rw [if_neg g]
      exact ev_neg g (ev_eq (by simp) (ev_ret _))
theorem run_letter_ev (s : ByteArray) (hs : s.size ≤ 140737488351232) (i : Int) (h0 : 0 ≤ i) (h1 : i ≤ s.size) : Ev (fun k => impl_run_impl_letter.f k s i) (i + runL isLet ((bs s).drop i.toNat)) :=
  run_letter_l0 s hs _ i h0 h1 (Int.toNat_of_nonneg (by omega)).symm

/-- The first place of a text in a list, counted from j on; -1 without it. -/
def idxT (s : ByteArray) : List ByteArray → Int → Int
  | [], _ => -1
  | y :: l, j => if y = s then j else idxT s l (j + 1)
theorem idxT_mem (s : ByteArray) : ∀ (l : List ByteArray) (j : Int), 0 ≤ j → (idxT s l j ≥ 0 ↔ s ∈ l)
  | [], j, _ => by simp [idxT]
  | y :: l, j, h => by
    unfold idxT
    by_cases c : y = s
    · rw [if_pos c]
      simp [c, h]
    · rw [if_neg c, idxT_mem s l (j + 1) (by omega)]
      have c' : ¬ s = y := fun h => c h.symm
      simp [c']
theorem slices_Index_l0 (l : List ByteArray) (s : ByteArray) (hl : l.length ≤ 140737488351232) (n : Nat) : ∀ (i : Int), 0 ≤ i → (l.length : Int) - i = n → Ev (fun k => slices_Index_string_string.l0 k l s (l.length : Int) i) (idxT s (l.drop i.toNat) i) := by
  induction n with
  | zero =>
    intro i h0 hi
    refine ev_step ?_
    simp only [slices_Index_string_string.l0]
    rw [drop_end h0 (by omega)]
    exact ev_neg (by omega) (ev_ret _)
  | succ n ih =>
    intro i h0 hi
    refine ev_step ?_
    simp only [slices_Index_string_string.l0]
    refine ev_pos (by omega) (ev_pos h0 (ev_pos (by omega) ?_))
    rw [drop_rd (d := ByteArray.empty) h0 (by omega)]
    unfold idxT
    by_cases c : s.toList = (rdOf ByteArray.empty l i).toList
    · refine ev_pos c (ev_eq ?_ (ev_ret _))
      rw [toList_eq_iff] at c
      rw [if_pos c.symm]
    · refine ev_neg c ?_
      rw [w64 (x := i + 1) (by omega) (by omega)]
      refine ev_eq ?_ (ih (i + 1) (by omega) (by omega))
      rw [toList_eq_iff] at c
      rw [if_neg (fun h => c h.symm)]
theorem slices_Index_ev (l : List ByteArray) (s : ByteArray) (hl : l.length ≤ 140737488351232) : Ev (fun k => slices_Index_string_string.f k l s) (idxT s l 0) :=
  slices_Index_l0 l s hl l.length 0 (by omega) (by omega)
theorem slices_Contains_ev (l : List ByteArray) (s : ByteArray) (hl : l.length ≤ 140737488351232) : Ev (fun k => slices_Contains_string_string.f k l s) (decide (s ∈ l)) := by
  unfold slices_Contains_string_string.f
  refine Ev.bind (slices_Index_ev l s hl) (ev_eq ?_ (ev_ret _))
  rw [decide_eq_decide]
  exact idxT_mem s l 0 (by omega)

theorem impl_KeyWord_ev (s : ByteArray) : Ev (fun k => impl_KeyWord.f k s) (isKey s) := by
  unfold impl_KeyWord.f
  exact Ev.bind (slices_Contains_ev keyList s (by decide)) (ev_ret _)

theorem within_some (n lo hi : Int) : impl_within.f n lo hi = some (decide (lo ≤ n ∧ n ≤ hi)) := by
  unfold impl_within.f
  by_cases c : n ≥ lo
  · rw [if_pos c]
    simp [c]
  · rw [if_neg c]
    have c' : ¬ lo ≤ n := c
    simp [c']

theorem impl_NameOk_ev (s : ByteArray) (hs : s.size ≤ 140737488351232) : Ev (fun k => impl_NameOk.f k s) (nameP s) := by
  unfold impl_NameOk.f
  rw [within_some]
  refine ev_bindc rfl ?_
  have hl := bs_length s
  have ha := runL_all isLet (bs s)
  have hr := run_letter_ev s hs 0 (by omega) (by omega)
  simp only [Int.toNat_zero, List.drop_zero, Int.zero_add] at hr
  unfold nameP
  by_cases c : 1 ≤ s.size ∧ s.size ≤ 8
  · refine ev_pos (by simp; omega) (Ev.bind hr ?_)
    by_cases c2 : (bs s).all isLet = true
    · refine ev_pos ?_ (Ev.bind (impl_KeyWord_ev s) (ev_eq ?_ (ev_ret _)))
      · have := ha.2 c2
        omega
      · simp only [c2, Bool.and_true]
        simp [c]
    · refine ev_neg ?_ (ev_eq ?_ (ev_ret _))
      · intro h
        exact c2 (ha.1 (by omega))
      · have c3 : (bs s).all isLet = false := by simpa using c2
        rw [c3]
        simp
  · refine ev_neg (by simp; omega) (ev_eq ?_ (ev_ret _))
    rw [show decide (1 ≤ s.size ∧ s.size ≤ 8) = false by simpa using c]
    rfl

theorem spec_KeyWord_l0 (s : ByteArray) (l : List ByteArray) (hl : l.length ≤ 1000) (n : Nat) : ∀ (i : Int), 0 ≤ i → (l.length : Int) - i = n → Ev (fun k => spec_KeyWord.l0 k s l i) (decide (s ∈ l.drop i.toNat)) := by
  induction n with
  | zero =>
    intro i h0 hi
    refine ev_step ?_
    simp only [spec_KeyWord.l0]
    rw [drop_end h0 (by omega)]
    exact ev_neg (by omega) (ev_eq (by simp) (ev_ret _))
  | succ n ih =>
    intro i h0 hi
    refine ev_step ?_
    simp only [spec_KeyWord.l0]
    refine ev_pos (by omega) (ev_pos h0 ?_)
    rw [drop_rd (d := ByteArray.empty) h0 (by omega)]
    by_cases c : (rdOf ByteArray.empty l i).toList = s.toList
    · refine ev_pos c (ev_eq ?_ (ev_ret _))
      rw [toList_eq_iff] at c
      simp [c]
    · refine ev_neg c ?_
      rw [w64 (x := i + 1) (by omega) (by omega)]
      refine ev_eq ?_ (ih (i + 1) (by omega) (by omega))
      rw [toList_eq_iff] at c
      have c' : ¬ s = rdOf ByteArray.empty l i := fun h => c h.symm
      simp [c']
theorem spec_KeyWord_ev (s : ByteArray) : Ev (fun k => spec_KeyWord.f k s) (isKey s) := by
  unfold spec_KeyWord.f spec_l04Keys.f
  exact ev_bindc (a := keyList) rfl (spec_KeyWord_l0 s keyList (by decide) keyList.length 0 (by omega) (by simp))

theorem l01In_some (n lo hi : Int) : spec_l01In.f n lo hi = some (decide (lo ≤ n ∧ n ≤ hi)) := by
  unfold spec_l01In.f
  by_cases c : n ≥ lo
  · rw [if_pos c]
    simp [c]
  · rw [if_neg c]
    have c' : ¬ lo ≤ n := c
    simp [c']

theorem spec_NameOk_l0 (s : ByteArray) (hs : s.size ≤ 140737488351232) (n : Nat) : ∀ i : Int, 0 ≤ i → (s.size : Int) - i = n → Ev (fun k => spec_NameOk.l0 k s i) (decide (1 ≤ s.size ∧ s.size ≤ 8) && ((bs s).drop i.toNat).all isLet && !isKey s) := by
  induction n with
  | zero =>
    intro i h0 hn
    refine ev_step ?_
    simp only [spec_NameOk.l0]
    rw [bs_end h0 (by omega), l01In_some]
    refine ev_neg (by omega) (ev_bindc rfl ?_)
    by_cases c : 1 ≤ s.size ∧ s.size ≤ 8
    · exact ev_pos (by simp; omega) (Ev.bind (spec_KeyWord_ev s) (ev_eq (by simp [c]) (ev_ret _)))
    · refine ev_neg (by simp; omega) (ev_eq ?_ (ev_ret _))
      rw [show decide (1 ≤ s.size ∧ s.size ≤ 8) = false by simpa using c]
      rfl
  | succ n ih =>
    intro i h0 hn
    refine ev_step ?_
    simp only [spec_NameOk.l0]
    rw [bs_drop h0 (by omega), List.all_cons]
    refine ev_pos (by omega) (ev_pos h0 ?_)
    by_cases c : bt s i < 97
    · refine ev_pos c (ev_eq ?_ (ev_ret _))
      have : isLet (bt s i) = false := by unfold isLet; simp; omega
      simp [this]
    · refine ev_neg c ?_
      by_cases c2 : bt s i > 122
      · refine ev_pos c2 (ev_eq ?_ (ev_ret _))
        have : isLet (bt s i) = false := by unfold isLet; simp; omega
        simp [this]
      · rw [w64 (x := i + 1) (by omega) (by omega)]
        have : isLet (bt s i) = true := by unfold isLet; simp; omega
        rw [this, Bool.true_and]
        exact ev_neg c2 (ih (i + 1) (by omega) (by omega))
theorem spec_NameOk_ev (s : ByteArray) (hs : s.size ≤ 140737488351232) : Ev (fun k => spec_NameOk.f k s) (nameP s) := by
  unfold spec_NameOk.f
  have h := spec_NameOk_l0 s hs s.size 0 (by omega) (by omega)
  simpa [nameP] using h

theorem FnExactNameOk : laws_FnExactNameOk.Pure := by
  intro s hs
  refine Ev.rounds ?_
  unfold laws_FnExactNameOk.f
  by_cases c : (s.size : Int) > 1048576
  · exact ev_pos c (ev_ret _)
  · exact ev_neg c (Ev.bind (spec_NameOk_ev s hs) (Ev.bind (impl_NameOk_ev s hs) (ev_neg (by simp) (ev_ret _))))

end Go.Proofs.Ytkjedicbfpedmaa.Pure
