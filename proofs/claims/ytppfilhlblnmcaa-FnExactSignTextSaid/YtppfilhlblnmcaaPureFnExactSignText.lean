/- The program's SignText answers as the reference's at every list of signs, and leaves the list as it was. No condition beyond the law's own bound. -/
import Derived.Test.YtppfilhlblnmcaaOpnFnExactSignText
set_option linter.unusedVariables false
set_option linter.unusedSimpArgs false
namespace Go.Proofs.Ytppfilhlblnmcaa.Pure
open Go.RowKit Go.Proofs.Ytppfilhlblnmcaa.PFnExactSignText Go.Proofs.YtppfilhlblnmcaaW.PrintWords Go.Proofs.YtppfilhlblnmcaaW.PrintLast Go.Proofs.YtppfilhlblnmcaaW.PrintMore Go.Proofs.Ytppfilhlblnmcaa.Opn Go.Proofs.Ytppfilhlblnmcaa.OpnFnExactSignText

theorem w64 {x : Int} (h0 : -9223372036854775808 ≤ x) (h1 : x ≤ 9223372036854775807) : wrap64 x = x := by
  unfold wrap64
  omega
theorem wf_i64 {x : Int} (h : (Lit.int .i64 x).wf = true) : -9223372036854775808 ≤ x ∧ x ≤ 9223372036854775807 := by
  simp [Lit.wf, IntKind.min, IntKind.max, IntKind.signed, IntKind.bits] at h
  omega

instance lawBA : LawfulBEq ByteArray where
  eq_of_beq {a b} h := by
    cases a
    cases b
    congr 1
    exact eq_of_beq (α := Array UInt8) h
  rfl {a} := by
    cases a
    exact BEq.rfl (α := Array UInt8)

/-! Rounds -/
theorem ev_step {α : Type} {g : Nat → Option α} {r : α} (h : Ev (fun k => g (k + 1)) r) : Ev g r := Ev.step (fun _ => rfl) h
theorem ev_ret {α : Type} (r : α) : Ev (fun _ => some r) r := ⟨0, fun _ _ => rfl⟩
theorem ev_pos {α : Type} {c : Prop} [Decidable c] {g f : Nat → Option α} {r : α} (h : c) (k : Ev g r) : Ev (fun n => if c then g n else f n) r :=
  Ev.congr (fun _ => if_pos h) k
theorem ev_neg {α : Type} {c : Prop} [Decidable c] {g f : Nat → Option α} {r : α} (h : ¬ c) (k : Ev f r) : Ev (fun n => if c then g n else f n) r :=
  Ev.congr (fun _ => if_neg h) k
theorem ev_bindc {α β : Type} {x : Option α} {f : Nat → α → Option β} {a : α} {r : β} (h : x = some a) (k : Ev (fun n => f n a) r) : Ev (fun n => x.bind (f n)) r := by
  subst h
  exact k
theorem ev_rpos {α : Type} {c : Prop} [Decidable c] {g : Nat → Option α} {a b : α} (h : c) (k : Ev g a) : Ev g (if c then a else b) := by
  rw [if_pos h]
  exact k
theorem ev_rneg {α : Type} {c : Prop} [Decidable c] {g : Nat → Option α} {a b : α} (h : ¬ c) (k : Ev g b) : Ev g (if c then a else b) := by
  rw [if_neg h]
  exact k
theorem ev_eq {α : Type} {g : Nat → Option α} {r r' : α} (h : r = r') (k : Ev g r) : Ev g r' := h ▸ k

/-! Lists and texts as lists of numbers -/
def bs (s : ByteArray) : List Int := s.data.toList.map fun c => (c.toNat : Int)
theorem bs_length (s : ByteArray) : (bs s).length = s.size := by
  unfold bs
  rw [List.length_map, Array.length_toList]
  rfl
theorem bs_range {s : ByteArray} {x : Int} (h : x ∈ bs s) : 0 ≤ x ∧ x < 256 := by
  unfold bs at h
  obtain ⟨c, _, rfl⟩ := List.mem_map.1 h
  have := c.toNat_lt
  omega
theorem bs_inj {a b : ByteArray} (h : bs a = bs b) : a = b := by
  have h2 : a.data.toList = b.data.toList := by
    have h3 := congrArg (List.map fun n : Int => UInt8.ofNat n.toNat) h
    unfold bs at h3
    rw [List.map_map, List.map_map] at h3
    have e : ∀ l : List UInt8, l.map ((fun n : Int => UInt8.ofNat n.toNat) ∘ fun c => (c.toNat : Int)) = l := by
      intro l
      induction l with
      | nil => rfl
      | cons c l ih =>
        rw [List.map_cons, ih]
        simp
    rwa [e, e] at h3
  cases a
  cases b
  congr 1
  exact Array.toList_inj.1 h2
theorem toList_eq_iff {a b : ByteArray} : a.toList = b.toList ↔ a = b := by
  constructor
  · intro h
    rw [ByteArray.toList_eq, ByteArray.toList_eq] at h
    cases a
    cases b
    congr 1
    exact Array.toList_inj.1 h
  · rintro rfl
    rfl
theorem drop_rd {α : Type} {d : α} {l : List α} {i : Int} (h0 : 0 ≤ i) (h1 : i < l.length) : l.drop i.toNat = rdOf d l i :: l.drop (i + 1).toNat := by
  have h2 : i.toNat < l.length := by omega
  rw [List.drop_eq_getElem_cons h2]
  unfold rdOf
  rw [List.getD_eq_getElem?_getD, List.getElem?_eq_getElem h2, show (i + 1).toNat = i.toNat + 1 by omega]
  rfl
theorem drop_end {α : Type} {l : List α} {i : Int} (h0 : 0 ≤ i) (h1 : ¬ i < l.length) : l.drop i.toNat = [] := List.drop_eq_nil_of_le (by omega)
theorem bs_rd {s : ByteArray} {i : Int} (h0 : 0 ≤ i) (h1 : i < s.size) : rdOf 0 (bs s) i = bt s i := by
  have h2 : i.toNat < s.size := by omega
  have h3 : i.toNat < s.data.toList.length := by
    rw [Array.length_toList]
    exact h2
  unfold rdOf bs bt
  rw [List.getD_eq_getElem?_getD, List.getElem?_map, List.getElem?_eq_getElem h3, dif_pos h2]
  rfl
theorem bs_drop {s : ByteArray} {i : Int} (h0 : 0 ≤ i) (h1 : i < s.size) : (bs s).drop i.toNat = bt s i :: (bs s).drop (i + 1).toNat := by
  rw [drop_rd (d := 0) h0 (by rw [bs_length]; exact h1), bs_rd h0 h1]
theorem bs_end {s : ByteArray} {i : Int} (h0 : 0 ≤ i) (h1 : ¬ i < s.size) : (bs s).drop i.toNat = [] := drop_end h0 (by rw [bs_length]; exact h1)
theorem strOf_bs (s : ByteArray) : strOfNums (bs s) = s := by
  have e : (bs s).map (fun n => UInt8.ofNat n.toNat) = s.data.toList := by
    unfold bs
    rw [List.map_map]
    conv => rhs; rw [← List.map_id s.data.toList]
    exact List.map_congr_left fun c _ => by simp
  unfold strOfNums
  rw [e]
theorem bs_strOf {l : List Int} (h : ∀ x ∈ l, 0 ≤ x ∧ x < 256) : bs (strOfNums l) = l := by
  unfold bs strOfNums
  rw [List.map_map]
  conv => rhs; rw [← List.map_id l]
  refine List.map_congr_left fun x hx => ?_
  obtain ⟨h0, h1⟩ := h x hx
  simp only [Function.comp_apply, UInt8.toNat_ofNat', id_eq]
  omega
theorem bs_append (a b : ByteArray) : bs (a ++ b) = bs a ++ bs b := by simp [bs]
theorem strOf_append (a b : List Int) : strOfNums (a ++ b) = strOfNums a ++ strOfNums b := by
  cases h : strOfNums a ++ strOfNums b
  rename_i d
  have := congrArg ByteArray.data h
  simp only [ByteArray.data_append] at this
  unfold strOfNums at this ⊢
  simp only [← this]
  simp
theorem ev_id {α : Type} {g : Nat → Option α} {r : α} (h : ∀ k, g k = some r) : Ev g r := ⟨0, fun k _ => h k⟩

theorem set_take {α : Type} (l : List α) (i : Nat) (x : α) (h : i < l.length) : (l.set i x).take (i + 1) = l.take i ++ [x] := by
  apply List.ext_getElem?
  intro j
  rcases Nat.lt_trichotomy j i with hj | hj | hj
  · rw [List.getElem?_take_of_lt (by omega), List.getElem?_set_ne (by omega), List.getElem?_append_left (by simp; omega), List.getElem?_take_of_lt hj]
  · subst hj
    rw [List.getElem?_take_of_lt (by omega), List.getElem?_set_self h, List.getElem?_append_right (by simp; omega)]
    simp [Nat.min_eq_left (Nat.le_of_lt h)]
  · rw [List.getElem?_eq_none (by simp; omega), List.getElem?_eq_none (by simp; omega)]
theorem take_rd {α : Type} (d : α) {l : List α} {i : Int} (h0 : 0 ≤ i) (h1 : i < l.length) : l.take (i + 1).toNat = l.take i.toNat ++ [rdOf d l i] := by
  have h2 : i.toNat < l.length := by omega
  rw [show (i + 1).toNat = i.toNat + 1 by omega, List.take_succ_eq_append_getElem h2]
  unfold rdOf
  rw [List.getD_eq_getElem?_getD, List.getElem?_eq_getElem h2]
  rfl
theorem rd_rdOf (l : List Int) (i : Int) : rd l i = rdOf 0 l i := rfl
theorem rdOf_mem {α : Type} {d : α} {l : List α} {i : Int} (h0 : 0 ≤ i) (h1 : i < l.length) : rdOf d l i ∈ l := by
  unfold rdOf
  rw [List.getD_eq_getElem?_getD, List.getElem?_eq_getElem (show i.toNat < l.length by omega)]
  exact List.getElem_mem _
/-- A copy made element by element, one round. -/
theorem copy_step {α : Type} (d : α) {src acc : List α} {i : Int} (h0 : 0 ≤ i) (h1 : i < src.length) (hl : acc.length = src.length) (ht : acc.take i.toNat = src.take i.toNat) :
    (acc.set i.toNat (rdOf d src i)).length = src.length ∧ (acc.set i.toNat (rdOf d src i)).take (i + 1).toNat = src.take (i + 1).toNat := by
  refine ⟨by simpa using hl, ?_⟩
  rw [take_rd d h0 h1, ← ht, show (i + 1).toNat = i.toNat + 1 by omega, set_take _ _ _ (by omega)]
theorem copy_end {α : Type} {src acc : List α} {i : Int} (h0 : 0 ≤ i) (h1 : ¬ i < src.length) (hl : acc.length = src.length) (ht : acc.take i.toNat = src.take i.toNat) : acc = src := by
  rw [List.take_of_length_le (by omega), List.take_of_length_le (by omega)] at ht
  exact ht

def cSign (x : S56) : S50 := ⟨x.f0, x.f1, x.f2, x.f3⟩
/-- How long the texts are, with one more each. -/
def totS : List ByteArray → Nat
  | [] => 0
  | x :: l => x.size + 1 + totS l
theorem szSignS_l0 (l : List S56) (hl : l.length ≤ 9223372036854775807) (hk : ∀ x ∈ l, x.f1.size ≤ 9223372036854775807) (n : Nat) : ∀ (left i : Int), 0 ≤ i → (l.length : Int) - i = n → 0 ≤ left → left ≤ 1048576 →
    ∃ r, Ev (fun k => laws_szSignS.l0 k l left i) r ∧ r ≤ left ∧ (0 ≤ r → (totS ((l.drop i.toNat).map (·.f1)) : Int) - ((l.length : Int) - i) ≤ left) := by
  induction n with
  | zero =>
    intro left i h0 hn h1 h2
    refine ⟨left, ev_step ?_, Int.le_refl _, fun _ => ?_⟩
    · simp only [laws_szSignS.l0]
      exact ev_neg (by omega) (ev_ret _)
    · rw [drop_end h0 (by omega)]
      show (0 : Int) - _ ≤ _
      omega
  | succ n ih =>
    intro left i h0 hn h1 h2
    have hm : rdOf z56 l i ∈ l := rdOf_mem h0 (by omega)
    have hs := hk _ hm
    have hd := drop_rd (d := z56) (l := l) h0 (by omega)
    have hw : wrap64 (left - ((rdOf z56 l i).f1.size : Int)) = left - ((rdOf z56 l i).f1.size : Int) := w64 (by omega) (by omega)
    have hz : laws_szSign.f (rdOf z56 l i).f0 (rdOf z56 l i).f1 (rdOf z56 l i).f2 (rdOf z56 l i).f3 left = some (if left - ((rdOf z56 l i).f1.size : Int) < 0 then -1 else left - ((rdOf z56 l i).f1.size : Int)) := by
      unfold laws_szSign.f
      rw [hw]
      split <;> rfl
    by_cases c : left - ((rdOf z56 l i).f1.size : Int) < 0
    · refine ⟨-1, ev_step ?_, by omega, fun h => by omega⟩
      simp only [laws_szSignS.l0]
      rw [if_pos c] at hz
      exact ev_pos (by omega) (ev_pos h0 (ev_bindc hz (ev_pos (by omega) (ev_ret _))))
    · rw [if_neg c] at hz
      obtain ⟨r, r1, r2, r3⟩ := ih (left - ((rdOf z56 l i).f1.size : Int)) (i + 1) (by omega) (by omega) (by omega) (by omega)
      refine ⟨r, ev_step ?_, by omega, fun h => ?_⟩
      · simp only [laws_szSignS.l0]
        rw [w64 (x := i + 1) (by omega) (by omega)]
        exact ev_pos (by omega) (ev_pos h0 (ev_bindc hz (ev_neg c r1)))
      · have := r3 h
        rw [hd, List.map_cons]
        show (((rdOf z56 l i).f1.size + 1 + totS ((l.drop (i + 1).toNat).map (·.f1)) : Nat) : Int) - _ ≤ _
        omega
theorem szSignS_ev (l : List S56) (hl : l.length ≤ 9223372036854775807) (hk : ∀ x ∈ l, x.f1.size ≤ 9223372036854775807) : ∃ r, Ev (fun k => laws_szSignS.f k l 1048576) r ∧ (0 ≤ r → (totS (l.map (·.f1)) : Int) ≤ 1048576 ∧ l.length ≤ 1048576) := by
  unfold laws_szSignS.f
  have hw : wrap64 (1048576 - (l.length : Int)) = 1048576 - (l.length : Int) := w64 (by omega) (by omega)
  rw [hw]
  by_cases c : 1048576 - (l.length : Int) < 0
  · exact ⟨-1, ev_pos c (ev_ret _), fun h => by omega⟩
  · obtain ⟨r, r1, r2, r3⟩ := szSignS_l0 l hl hk l.length (1048576 - (l.length : Int)) 0 (by omega) (by omega) (by omega) (by omega)
    refine ⟨r, ev_neg c r1, fun h => ?_⟩
    have := r3 h
    simp only [Int.toNat_zero, List.drop_zero] at this
    exact ⟨by omega, by omega⟩
theorem toSignS_l0 (l : List S56) (hl : l.length ≤ 1048576) (n : Nat) : ∀ (acc : List S50) (i : Int), 0 ≤ i → (l.length : Int) - i = n → acc.length = (l.map cSign).length → acc.take i.toNat = (l.map cSign).take i.toNat → Ev (fun k => laws_toSignS.l0 k l acc i) (l.map cSign) := by
  induction n with
  | zero =>
    intro acc i h0 hn ha ht
    refine ev_step ?_
    simp only [laws_toSignS.l0]
    refine ev_neg (by omega) (ev_eq (copy_end h0 (by rw [List.length_map]; omega) ha ht) (ev_ret _))
  | succ n ih =>
    intro acc i h0 hn ha ht
    refine ev_step ?_
    simp only [laws_toSignS.l0]
    have hl2 : (l.map cSign).length = l.length := List.length_map _
    obtain ⟨k1, k2⟩ := copy_step z50 (src := l.map cSign) (acc := acc) h0 (by omega) ha ht
    have e : rdOf z50 (l.map cSign) i = cSign (rdOf z56 l i) := by
      unfold rdOf
      rw [List.getD_eq_getElem?_getD, List.getD_eq_getElem?_getD, List.getElem?_map, List.getElem?_eq_getElem (show i.toNat < l.length by omega)]
      rfl
    rw [e] at k1 k2
    rw [w64 (x := i + 1) (by omega) (by omega)]
    exact ev_pos (by omega) (ev_pos h0 (ev_bindc rfl (ev_pos (by omega) (ih _ (i + 1) (by omega) (by omega) k1 k2))))
theorem toSignS_ev (l : List S56) (hl : l.length ≤ 1048576) : Ev (fun k => laws_toSignS.f k l) (l.map cSign) := by
  unfold laws_toSignS.f
  refine ev_pos (by omega) (ev_pos (by omega) (toSignS_l0 l hl l.length _ 0 (by omega) (by omega) (by simp) (by simp)))
theorem eqSignS_l0 (l : List S50) (hl : l.length ≤ 9223372036854775807) (n : Nat) : ∀ i : Int, 0 ≤ i → (l.length : Int) - i = n → Ev (fun k => laws_eqSignS.l0 k l l i) true := by
  induction n with
  | zero =>
    intro i h0 hn
    refine ev_step ?_
    simp only [laws_eqSignS.l0]
    exact ev_neg (by omega) (ev_ret _)
  | succ n ih =>
    intro i h0 hn
    refine ev_step ?_
    simp only [laws_eqSignS.l0]
    have he : ∀ x : S50, laws_eqSign.f x.f0 x.f1 x.f2 x.f3 x.f0 x.f1 x.f2 x.f3 = some true := by
      intro x
      unfold laws_eqSign.f
      rw [if_pos rfl, if_pos rfl, if_pos rfl, if_pos rfl]
    rw [w64 (x := i + 1) (by omega) (by omega)]
    exact ev_pos (by omega) (ev_pos h0 (ev_pos (by omega) (ev_bindc (he _) (ev_pos rfl (ih (i + 1) (by omega) (by omega))))))
theorem eqSignS_ev (l : List S50) (hl : l.length ≤ 9223372036854775807) : Ev (fun k => laws_eqSignS.f k l l) true := by
  unfold laws_eqSignS.f
  exact ev_pos rfl (eqSignS_l0 l hl l.length 0 (by omega) (by omega))

def sp1 : ByteArray := ⟨#[32]⟩
/-- The texts behind one another, a space ahead of each. -/
def tailT : List ByteArray → ByteArray → ByteArray
  | [], s => s
  | x :: l, s => tailT l ((s ++ sp1) ++ x)
def allT : List ByteArray → ByteArray
  | [] => ⟨#[]⟩
  | x :: l => tailT l ((⟨#[]⟩ : ByteArray) ++ x)
theorem sp1_size : sp1.size = 1 := rfl
theorem spec_SignText_l0 (l : List S50) (hl : l.length ≤ 1048576) (n : Nat) : ∀ (s : ByteArray) (i : Int), 0 < i → (l.length : Int) - i = n → (s.size : Int) + totS ((l.drop i.toNat).map (·.f1)) ≤ 4194304 →
    Ev (fun k => spec_SignText.l0 k l s i) (tailT ((l.drop i.toNat).map (·.f1)) s) := by
  induction n with
  | zero =>
    intro s i h0 hn hb
    refine ev_step ?_
    simp only [spec_SignText.l0]
    rw [drop_end (by omega) (by omega)]
    exact ev_neg (by omega) (ev_ret _)
  | succ n ih =>
    intro s i h0 hn hb
    have hd := drop_rd (d := z50) (l := l) (i := i) (by omega) (by omega)
    rw [hd, List.map_cons] at hb
    have hb2 : (s.size : Int) + ((rdOf z50 l i).f1.size + 1 + totS ((l.drop (i + 1).toNat).map (·.f1)) : Nat) ≤ 4194304 := hb
    have e1 : (s ++ sp1).size = s.size + 1 := ByteArray.size_append
    have e2 : ((s ++ sp1) ++ (rdOf z50 l i).f1).size = s.size + 1 + (rdOf z50 l i).f1.size := by
      rw [ByteArray.size_append, e1]
    rw [hd, List.map_cons]
    refine ev_step ?_
    simp only [spec_SignText.l0]
    rw [w64 (x := i + 1) (by omega) (by omega)]
    exact ev_pos (by omega) (ev_pos h0 (ev_pos (by omega) (ev_pos (by omega) (ev_pos (by show s.size + 1 + (rdOf z50 l i).f1.size ≤ _; omega) (ih _ (i + 1) (by omega) (by omega) (by show (((s ++ sp1) ++ (rdOf z50 l i).f1).size : Int) + _ ≤ _; omega))))))
theorem spec_SignText_ev (l : List S50) (hl : l.length ≤ 1048576) (hb : (totS (l.map (·.f1)) : Int) ≤ 1048576) : Ev (fun k => spec_SignText.f k l) (allT (l.map (·.f1))) := by
  unfold spec_SignText.f
  refine ev_step ?_
  simp only [spec_SignText.l0]
  cases l with
  | nil => exact ev_neg (by simp) (ev_ret _)
  | cons x l =>
    have hb2 : ((x.f1.size + 1 + totS (l.map (·.f1)) : Nat) : Int) ≤ 1048576 := hb
    have e0 : ((⟨#[]⟩ : ByteArray) ++ x.f1).size = x.f1.size := by
      rw [ByteArray.size_append]
      show 0 + x.f1.size = _
      omega
    rw [show wrap64 ((0 : Int) + 1) = 1 from w64 (by omega) (by omega)]
    have h := spec_SignText_l0 (x :: l) hl l.length ((⟨#[]⟩ : ByteArray) ++ x.f1) 1 (by omega) (by simp) (by
      show (((⟨#[]⟩ : ByteArray) ++ x.f1).size : Int) + (totS (l.map (·.f1)) : Int) ≤ _
      omega)
    refine ev_pos (by simp) (ev_neg (by omega) (ev_pos (by omega) (ev_pos (by show (⟨#[]⟩ : ByteArray).size + x.f1.size ≤ _; show 0 + x.f1.size ≤ _; omega) h)))
theorem impl_SignText_l0 (l : List S50) (hl : l.length ≤ 1048576) (r : ByteArray) (hr : strings_Join.f (l.map (·.f1)) sp1 = some r) (n : Nat) : ∀ (i : Int), 0 ≤ i → (l.length : Int) - i = n →
    Ev (fun k => impl_SignText.l0 k ((l.map (·.f1)).take i.toNat) l (l.length : Int) i) r := by
  induction n with
  | zero =>
    intro i h0 hn
    refine ev_step ?_
    simp only [impl_SignText.l0]
    rw [List.take_of_length_le (by rw [List.length_map]; omega)]
    exact ev_neg (by omega) (ev_bindc hr (ev_ret _))
  | succ n ih =>
    intro i h0 hn
    refine ev_step ?_
    simp only [impl_SignText.l0]
    have ht := take_rd ByteArray.empty (l := l.map (·.f1)) (i := i) h0 (by rw [List.length_map]; omega)
    have e : rdOf ByteArray.empty (l.map (·.f1)) i = (rdOf z50 l i).f1 := by
      unfold rdOf
      rw [List.getD_eq_getElem?_getD, List.getD_eq_getElem?_getD, List.getElem?_map, List.getElem?_eq_getElem (show i.toNat < l.length by omega)]
      rfl
    rw [e] at ht
    have h := ih (i + 1) (by omega) (by omega)
    rw [ht] at h
    rw [w64 (x := i + 1) (by omega) (by omega)]
    exact ev_pos (by omega) (ev_pos h0 (ev_pos (by omega) (ev_pos (by rw [List.length_take, List.length_map]; omega) h)))
theorem ba_append (a b : ByteArray) : (a ++ b).data.toList = a.data.toList ++ b.data.toList := by
  simp
theorem tailT_join : ∀ (l : List ByteArray) (s : ByteArray), (tailT l s).data.toList = s.data.toList ++ Lib.joinTail [32] (l.map fun x => x.data.toList)
  | [], s => by
    unfold tailT Lib.joinTail
    simp
  | x :: l, s => by
    unfold tailT
    rw [tailT_join l]
    unfold Lib.joinTail
    rw [List.map_cons, List.map_cons, List.flatten_cons, ba_append, ba_append]
    simp [sp1]
theorem totS_lens : ∀ l : List ByteArray, (Lib.joinTail [32] (l.map fun x => x.data.toList)).length = totS l
  | [] => rfl
  | x :: l => by
    have ih := totS_lens l
    unfold Lib.joinTail at ih ⊢
    rw [List.map_cons, List.map_cons, List.flatten_cons, List.length_append, ih]
    show ([32] ++ x.data.toList).length + totS l = x.size + 1 + totS l
    rw [List.length_append, Array.length_toList]
    show 1 + x.data.size + totS l = x.data.size + 1 + totS l
    omega
theorem join_allT (l : List ByteArray) : (allT l).data.toList = Lib.join (l.map fun x => x.data.toList) [32] := by
  cases l with
  | nil => rfl
  | cons x l =>
    unfold allT
    rw [List.map_cons, Lib.join_cons, tailT_join, ba_append]
    rfl
theorem impl_SignText_ev (l : List S50) (hl : l.length ≤ 1048576) (hb : (totS (l.map (·.f1)) : Int) ≤ 1048576) : Ev (fun k => impl_SignText.f k l) (allT (l.map (·.f1))) := by
  unfold impl_SignText.f
  have hj := join_allT (l.map (·.f1))
  have hlen : (Lib.join ((l.map (·.f1)).map fun x => x.data.toList) [32]).length ≤ 140737488355328 := by
    cases l with
    | nil => simp [Lib.join_nil]
    | cons x l =>
      rw [List.map_cons, List.map_cons, Lib.join_cons, List.length_append, totS_lens, Array.length_toList]
      have hb2 : ((x.f1.size + 1 + totS (l.map (·.f1)) : Nat) : Int) ≤ 1048576 := hb
      show x.f1.data.size + totS (l.map (·.f1)) ≤ _
      have : x.f1.data.size = x.f1.size := rfl
      omega
  have hr : strings_Join.f (l.map (·.f1)) sp1 = some (allT (l.map (·.f1))) := by
    unfold strings_Join.f
    rw [if_pos ⟨by rw [List.length_map]; omega, hlen⟩]
    show some (⟨(Lib.join ((l.map (·.f1)).map fun x => x.data.toList) [32]).toArray⟩ : ByteArray) = _
    rw [← hj]
  have h := impl_SignText_l0 l hl _ hr l.length 0 (by omega) (by omega)
  simpa using h

theorem FnExactSignText : Go.Proofs.Ytppfilhlblnmcaa.OpnFnExactSignText.Pure := by
  intro l ⟨hl, hg⟩
  refine Ev.rounds ?_
  unfold laws_FnExactSignText.f
  obtain ⟨r, hr, hx⟩ := szSignS_ev l hl (fun x hx => (hg x hx).2.1)
  refine Ev.bind hr ?_
  by_cases c : r < 0
  · exact ev_pos c (ev_ret _)
  · obtain ⟨h1, h2⟩ := hx (by omega)
    have ht := toSignS_ev l h2
    have hlen : (l.map cSign).length ≤ 1048576 := by
      rw [List.length_map]
      exact h2
    have hm : (l.map cSign).map (·.f1) = l.map (·.f1) := by
      rw [List.map_map]
      rfl
    have h1' : (totS ((l.map cSign).map (·.f1)) : Int) ≤ 1048576 := by
      rw [hm]
      exact h1
    generalize l.map cSign = m at ht hlen h1'
    exact ev_neg c (Ev.bind ht (Ev.bind (spec_SignText_ev m hlen h1') (Ev.bind ht (Ev.bind (impl_SignText_ev m hlen h1') (ev_pos rfl (Ev.bind ht (Ev.bind (eqSignS_ev m (by omega)) (ev_pos rfl (ev_ret _)))))))))

end Go.Proofs.Ytppfilhlblnmcaa.Pure
