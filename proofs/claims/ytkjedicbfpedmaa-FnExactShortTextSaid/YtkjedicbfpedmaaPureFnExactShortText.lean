/- The program's ShortText answers as the reference's at every text. No condition. -/
import Derived.Test.YtkjedicbfpedmaaPFnExactShortTextx1
set_option linter.unusedVariables false
set_option linter.unusedSimpArgs false
namespace Go.Proofs.Ytkjedicbfpedmaa.Pure
open Go.RowKit Go.Proofs.Ytkjedicbfpedmaa.PFnExactShortText Go.Proofs.YtkjedicbfpedmaaW.PrintWords Go.Proofs.YtkjedicbfpedmaaW.PrintLast Go.Proofs.YtkjedicbfpedmaaW.PrintMore

theorem w64 {x : Int} (h0 : -9223372036854775808 ≤ x) (h1 : x ≤ 9223372036854775807) : wrap64 x = x := by
  unfold wrap64
  omega
theorem wf_i64 {x : Int} (h : (Lit.int .i64 x).wf = true) : -9223372036854775808 ≤ x ∧ x ≤ 9223372036854775807 := by
  simp [Lit.wf, IntKind.min, IntKind.max, IntKind.signed, IntKind.bits] at h
  omega

instance lawBA : LawfulBEq ByteArray where
  eq_of_beq {a b} h := by
    cases a
    cases b
    congr 1
    exact eq_of_beq (α := Array UInt8) h
  rfl {a} := by
    cases a
    exact BEq.rfl (α := Array UInt8)

/-! Rounds -/
theorem ev_step {α : Type} {g : Nat → Option α} {r : α} (h : Ev (fun k => g (k + 1)) r) : Ev g r := Ev.step (fun _ => rfl) h
theorem ev_ret {α : Type} (r : α) : Ev (fun _ => some r) r := ⟨0, fun _ _ => rfl⟩
theorem ev_pos {α : Type} {c : Prop} [Decidable c] {g f : Nat → Option α} {r : α} (h : c) (k : Ev g r) : Ev (fun n => if c then g n else f n) r :=
  Ev.congr (fun _ => if_pos h) k
theorem ev_neg {α : Type} {c : Prop} [Decidable c] {g f : Nat → Option α} {r : α} (h : ¬ c) (k : Ev f r) : Ev (fun n => if c then g n else f n) r :=
  Ev.congr (fun _ => if_neg h) k
theorem ev_bindc {α β : Type} {x : Option α} {f : Nat → α → Option β} {a : α} {r : β} (h : x = some a) (k : Ev (fun n => f n a) r) : Ev (fun n => x.bind (f n)) r := by
  subst h
  exact k
theorem ev_eq {α : Type} {g : Nat → Option α} {r r' : α} (h : r = r') (k : Ev g r) : Ev g r' := h ▸ k

/-! Lists and texts as lists of numbers -/
def bs (s : ByteArray) : List Int := s.data.toList.map fun c => (c.toNat : Int)
theorem bs_length (s : ByteArray) : (bs s).length = s.size := by
  unfold bs
  rw [List.length_map, Array.length_toList]
  rfl
theorem bs_range {s : ByteArray} {x : Int} (h : x ∈ bs s) : 0 ≤ x ∧ x < 256 := by
  unfold bs at h
  obtain ⟨c, _, rfl⟩ := List.mem_map.1 h
  have := c.toNat_lt
  omega
theorem bs_inj {a b : ByteArray} (h : bs a = bs b) : a = b := by
  have h2 : a.data.toList = b.data.toList := by
    have h3 := congrArg (List.map fun n : Int => UInt8.ofNat n.toNat) h
    unfold bs at h3
    rw [List.map_map, List.map_map] at h3
    have e : ∀ l : List UInt8, l.map ((fun n : Int => UInt8.ofNat n.toNat) ∘ fun c => (c.toNat : Int)) = l := by
      intro l
      induction l with
      | nil => rfl
      | cons c l ih =>
        rw [List.map_cons, ih]
        simp
    rwa [e, e] at h3
  cases a
  cases b
  congr 1
  exact Array.toList_inj.1 h2
theorem toList_eq_iff {a b : ByteArray} : a.toList = b.toList ↔ a = b := by
  constructor
  · intro h
    rw [ByteArray.toList_eq, ByteArray.toList_eq] at h
    cases a
    cases b
    congr 1
    exact Array.toList_inj.1 h
  · rintro rfl
    rfl
theorem drop_rd {α : Type} {d : α} {l : List α} {i : Int} (h0 : 0 ≤ i) (h1 : i < l.length) : l.drop i.toNat = rdOf d l i :: l.drop (i + 1).toNat := by
  have h2 : i.toNat < l.length := by omega
  rw [List.drop_eq_getElem_cons h2]
  unfold rdOf
  rw [List.getD_eq_getElem?_getD, List.getElem?_eq_getElem h2, show (i + 1).toNat = i.toNat + 1 by omega]
  rfl
theorem drop_end {α : Type} {l : List α} {i : Int} (h0 : 0 ≤ i) (h1 : ¬ i < l.length) : l.drop i.toNat = [] := List.drop_eq_nil_of_le (by omega)
theorem bs_rd {s : ByteArray} {i : Int} (h0 : 0 ≤ i) (h1 : i < s.size) : rdOf 0 (bs s) i = bt s i := by
  have h2 : i.toNat < s.size := by omega
  have h3 : i.toNat < s.data.toList.length := by
    rw [Array.length_toList]
    exact h2
  unfold rdOf bs bt
  rw [List.getD_eq_getElem?_getD, List.getElem?_map, List.getElem?_eq_getElem h3, dif_pos h2]
  rfl
theorem bs_drop {s : ByteArray} {i : Int} (h0 : 0 ≤ i) (h1 : i < s.size) : (bs s).drop i.toNat = bt s i :: (bs s).drop (i + 1).toNat := by
  rw [drop_rd (d := 0) h0 (by rw [bs_length]; exact h1), bs_rd h0 h1]
theorem bs_end {s : ByteArray} {i : Int} (h0 : 0 ≤ i) (h1 : ¬ i < s.size) : (bs s).drop i.toNat = [] := drop_end h0 (by rw [bs_length]; exact h1)
theorem strOf_bs (s : ByteArray) : strOfNums (bs s) = s := by
  have e : (bs s).map (fun n => UInt8.ofNat n.toNat) = s.data.toList := by
    unfold bs
    rw [List.map_map]
    conv => rhs; rw [← List.map_id s.data.toList]
    exact List.map_congr_left fun c _ => by simp
  unfold strOfNums
  rw [e]
theorem bs_strOf {l : List Int} (h : ∀ x ∈ l, 0 ≤ x ∧ x < 256) : bs (strOfNums l) = l := by
  unfold bs strOfNums
  rw [List.map_map]
  conv => rhs; rw [← List.map_id l]
  refine List.map_congr_left fun x hx => ?_
  obtain ⟨h0, h1⟩ := h x hx
  simp only [Function.comp_apply, UInt8.toNat_ofNat', id_eq]
  omega
theorem bs_append (a b : ByteArray) : bs (a ++ b) = bs a ++ bs b := by simp [bs]
theorem strOf_append (a b : List Int) : strOfNums (a ++ b) = strOfNums a ++ strOfNums b := by
  cases h : strOfNums a ++ strOfNums b
  rename_i d
  have := congrArg ByteArray.data h
  simp only [ByteArray.data_append] at this
  unfold strOfNums at this ⊢
  simp only [← this]
  simp

/-- The bytes of a number's text; d tells how many more there may be. -/
def varL : Nat → Int → List Int
  | 0, n => [n]
  | d + 1, n => if n > 127 then (n % 128 + 128) :: varL d (n / 128) else [n]
def var5 (n : Int) : List Int := varL 4 n
theorem varL_byte (d : Nat) : ∀ {n : Int}, 0 ≤ n → n < 128 * 128 ^ d → ∀ x ∈ varL d n, 0 ≤ x ∧ x < 256 := by
  induction d with
  | zero =>
    intro n h0 h1 x hx
    simp only [varL, List.mem_singleton] at hx
    omega
  | succ d ih =>
    intro n h0 h1 x hx
    unfold varL at hx
    by_cases c : n > 127
    · rw [if_pos c] at hx
      rcases List.mem_cons.1 hx with hx | hx
      · omega
      · refine ih (n := n / 128) (by omega) ?_ x hx
        rw [Int.pow_succ] at h1
        omega
    · rw [if_neg c, List.mem_singleton] at hx
      omega

theorem within_some (n lo hi : Int) : impl_within.f n lo hi = some (decide (lo ≤ n ∧ n ≤ hi)) := by
  unfold impl_within.f
  by_cases c : n ≥ lo
  · rw [if_pos c]
    simp [c]
  · rw [if_neg c]
    have c' : ¬ lo ≤ n := c
    simp [c']

theorem impl_VarText_l0 (d : Nat) : ∀ (n : Int) (o : List Int), 0 ≤ n → n < 128 * 128 ^ d → o.length + d < 1000 → n ≤ 9223372036854775807 → Ev (fun k => impl_VarText.l0 k n o) (strOfNums (o ++ varL d n), true) := by
  induction d with
  | zero =>
    intro n o h0 h1 ho hm
    refine ev_step ?_
    simp only [impl_VarText.l0]
    refine ev_neg (by omega) (ev_pos (by omega) (ev_eq ?_ (ev_ret _)))
    rw [Int.emod_eq_of_lt h0 (by omega)]
    rfl
  | succ d ih =>
    intro n o h0 h1 ho hm
    refine ev_step ?_
    simp only [impl_VarText.l0]
    unfold varL
    by_cases c : n > 127
    · rw [if_pos c]
      refine ev_pos c (ev_pos (by omega) ?_)
      rw [Int.tdiv_eq_ediv_of_nonneg h0, Int.tmod_eq_emod_of_nonneg h0, w64 (x := n / 128) (by omega) (by omega), w64 (x := n % 128 + 128) (by omega) (by omega), Int.emod_eq_of_lt (a := n % 128 + 128) (by omega) (by omega)]
      rw [Int.pow_succ] at h1
      refine ev_eq ?_ (ih (n / 128) (o ++ [n % 128 + 128]) (by omega) (by omega) (by simp; omega) (by omega))
      simp
    · rw [if_neg c]
      refine ev_neg c (ev_pos (by omega) (ev_eq ?_ (ev_ret _)))
      rw [Int.emod_eq_of_lt h0 (by omega)]
theorem impl_VarText_ev {n : Int} (h0 : 0 ≤ n) (h1 : n ≤ 1000000000) : Ev (fun k => impl_VarText.f k n) (strOfNums (var5 n), true) := by
  unfold impl_VarText.f var5
  rw [within_some]
  refine ev_bindc rfl (ev_pos (by simp [h0, h1]) ?_)
  exact impl_VarText_l0 4 n [] h0 (by omega) (by simp) (by omega)
theorem impl_VarText_no {n : Int} (h : ¬ (0 ≤ n ∧ n ≤ 1000000000)) : Ev (fun k => impl_VarText.f k n) ((⟨#[]⟩ : ByteArray), false) := by
  unfold impl_VarText.f
  rw [within_some]
  exact ev_bindc rfl (ev_neg (by simpa using h) (ev_ret _))

theorem varL_length (d : Nat) : ∀ n : Int, (varL d n).length ≤ d + 1 := by
  induction d with
  | zero => intro n; simp [varL]
  | succ d ih =>
    intro n
    unfold varL
    split
    · have := ih (n / 128)
      simp
      omega
    · simp
theorem impl_ShortText_ev {s : ByteArray} (h : s.size ≤ 20000) : Ev (fun k => impl_ShortText.f k s) (strOfNums (var5 s.size) ++ s, true) := by
  unfold impl_ShortText.f
  refine ev_neg (by omega) (Ev.bind (impl_VarText_ev (by omega) (by omega)) (ev_pos ?_ (ev_ret _)))
  have := varL_length 4 s.size
  unfold var5
  rw [strOfNums_size]
  omega

theorem spec_l01Var_l0 (d : Nat) : ∀ (n : Int) (o : List Int), 0 ≤ n → n < 128 * 128 ^ d → o.length + d < 1000 → n ≤ 9223372036854775807 → Ev (fun k => spec_l01Var.l0 k n o) (strOfNums (o ++ varL d n)) := by
  induction d with
  | zero =>
    intro n o h0 h1 ho hm
    refine ev_step ?_
    simp only [spec_l01Var.l0]
    refine ev_neg (by omega) (ev_pos (by omega) (ev_eq ?_ (ev_ret _)))
    rw [Int.emod_eq_of_lt h0 (by omega)]
    rfl
  | succ d ih =>
    intro n o h0 h1 ho hm
    refine ev_step ?_
    simp only [spec_l01Var.l0]
    unfold varL
    by_cases c : n > 127
    · rw [if_pos c]
      refine ev_pos c (ev_pos (by omega) ?_)
      rw [Int.tdiv_eq_ediv_of_nonneg h0, Int.tmod_eq_emod_of_nonneg h0, w64 (x := n / 128) (by omega) (by omega), w64 (x := n % 128 + 128) (by omega) (by omega), Int.emod_eq_of_lt (a := n % 128 + 128) (by omega) (by omega)]
      rw [Int.pow_succ] at h1
      refine ev_eq ?_ (ih (n / 128) (o ++ [n % 128 + 128]) (by omega) (by omega) (by simp; omega) (by omega))
      simp
    · rw [if_neg c]
      refine ev_neg c (ev_pos (by omega) (ev_eq ?_ (ev_ret _)))
      rw [Int.emod_eq_of_lt h0 (by omega)]
theorem spec_l01Var_ev {n : Int} (h0 : 0 ≤ n) (h1 : n < 34359738368) : Ev (fun k => spec_l01Var.f k n) (strOfNums (var5 n)) := by
  unfold spec_l01Var.f var5
  exact spec_l01Var_l0 4 n [] h0 (by omega) (by simp) (by omega)

theorem FnExactShortText : laws_FnExactShortText.Pure := by
  intro a0 hs
  refine Ev.rounds ?_
  unfold laws_FnExactShortText.f
  by_cases c : (a0.size : Int) > 1048576
  · exact ev_pos c (ev_ret _)
  · refine ev_neg c ?_
    by_cases c2 : (a0.size : Int) > 20000
    · refine Ev.bind (a := ((⟨#[]⟩ : ByteArray), false)) ?_ (Ev.bind (a := ((⟨#[]⟩ : ByteArray), false)) ?_ ?_)
      · unfold spec_ShortText.f
        exact ev_pos c2 (ev_ret _)
      · unfold impl_ShortText.f
        exact ev_pos c2 (ev_ret _)
      · exact ev_pos rfl (ev_neg (by simp) (ev_ret _))
    · refine Ev.bind (a := (strOfNums (var5 a0.size) ++ a0, true)) ?_ (Ev.bind (impl_ShortText_ev (by omega)) ?_)
      · unfold spec_ShortText.f
        refine ev_neg c2 (Ev.bind (spec_l01Var_ev (by omega) (by omega)) (ev_pos ?_ (ev_ret _)))
        have := varL_length 4 a0.size
        unfold var5
        rw [strOfNums_size]
        omega
      · exact ev_pos rfl (ev_neg (by simp) (ev_ret _))

end Go.Proofs.Ytkjedicbfpedmaa.Pure
