/- The program's Hex answers as the reference's at every text. No condition. -/
import Derived.Test.YtkjedicbfpedmaaPFnExactHexx1
set_option linter.unusedVariables false
set_option linter.unusedSimpArgs false
namespace Go.Proofs.Ytkjedicbfpedmaa.Pure
open Go.RowKit Go.Proofs.Ytkjedicbfpedmaa.PFnExactHex Go.Proofs.YtkjedicbfpedmaaW.PrintWords Go.Proofs.YtkjedicbfpedmaaW.PrintLast Go.Proofs.YtkjedicbfpedmaaW.PrintMore

theorem w64 {x : Int} (h0 : -9223372036854775808 ≤ x) (h1 : x ≤ 9223372036854775807) : wrap64 x = x := by
  unfold wrap64
  omega
theorem wf_i64 {x : Int} (h : (Lit.int .i64 x).wf = true) : -9223372036854775808 ≤ x ∧ x ≤ 9223372036854775807 := by
  simp [Lit.wf, IntKind.min, IntKind.max, IntKind.signed, IntKind.bits] at h
  omega

instance lawBA : LawfulBEq ByteArray where
  eq_of_beq {a b} h := by
    cases a
    cases b
    congr 1
    exact eq_of_beq (α := Array UInt8) h
  rfl {a} := by
    cases a
    exact BEq.rfl (α := Array UInt8)

/-! Rounds -/
theorem ev_step {α : Type} {g : Nat → Option α} {r : α} (h : Ev (fun k => g (k + 1)) r) : Ev g r := Ev.step (fun _ => rfl) h
theorem ev_ret {α : Type} (r : α) : Ev (fun _ => some r) r := ⟨0, fun _ _ => rfl⟩
theorem ev_pos {α : Type} {c : Prop} [Decidable c] {g f : Nat → Option α} {r : α} (h : c) (k : Ev g r) : Ev (fun n => if c then g n else f n) r :=
  Ev.congr (fun _ => if_pos h) k
theorem ev_neg {α : Type} {c : Prop} [Decidable c] {g f : Nat → Option α} {r : α} (h : ¬ c) (k : Ev f r) : Ev (fun n => if c then g n else f n) r :=
  Ev.congr (fun _ => if_neg h) k
theorem ev_bindc {α β : Type} {x : Option α} {f : Nat → α → Option β} {a : α} {r : β} (h : x = some a) (k : Ev (fun n => f n a) r) : Ev (fun n => x.bind (f n)) r := by
  subst h
  exact k
theorem ev_rpos {α : Type} {c : Prop} [Decidable c] {g : Nat → Option α} {a b : α} (h : c) (k : Ev g a) : Ev g (if c then a else b) := by
  rw [if_pos h]
  exact k
theorem ev_rneg {α : Type} {c : Prop} [Decidable c] {g : Nat → Option α} {a b : α} (h : ¬ c) (k : Ev g b) : Ev g (if c then a else b) := by
  rw [if_neg h]
  exact k
theorem ev_eq {α : Type} {g : Nat → Option α} {r r' : α} (h : r = r') (k : Ev g r) : Ev g r' := h ▸ k

/-! Lists and texts as lists of numbers -/
def bs (s : ByteArray) : List Int := s.data.toList.map fun c => (c.toNat : Int)
theorem bs_length (s : ByteArray) : (bs s).length = s.size := by
  unfold bs
  rw [List.length_map, Array.length_toList]
  rfl
theorem bs_range {s : ByteArray} {x : Int} (h : x ∈ bs s) : 0 ≤ x ∧ x < 256 := by
  unfold bs at h
  obtain ⟨c, _, rfl⟩ := List.mem_map.1 h
  have := c.toNat_lt
  omega
theorem bs_inj {a b : ByteArray} (h : bs a = bs b) : a = b := by
  have h2 : a.data.toList = b.data.toList := by
    have h3 := congrArg (List.map fun n : Int => UInt8.ofNat n.toNat) h
    unfold bs at h3
    rw [List.map_map, List.map_map] at h3
    have e : ∀ l : List UInt8, l.map ((fun n : Int => UInt8.ofNat n.toNat) ∘ fun c => (c.toNat : Int)) = l := by
      intro l
      induction l with
      | nil => rfl
      | cons c l ih =>
        rw [List.map_cons, ih]
        simp
    rwa [e, e] at h3
  cases a
  cases b
  congr 1
  exact Array.toList_inj.1 h2
theorem toList_eq_iff {a b : ByteArray} : a.toList = b.toList ↔ a = b := by
  constructor
  · intro h
    rw [ByteArray.toList_eq, ByteArray.toList_eq] at h
    cases a
    cases b
    congr 1
    exact Array.toList_inj.1 h
  · rintro rfl
    rfl
theorem drop_rd {α : Type} {d : α} {l : List α} {i : Int} (h0 : 0 ≤ i) (h1 : i < l.length) : l.drop i.toNat = rdOf d l i :: l.drop (i + 1).toNat := by
  have h2 : i.toNat < l.length := by omega
  rw [List.drop_eq_getElem_cons h2]
  unfold rdOf
  rw [List.getD_eq_getElem?_getD, List.getElem?_eq_getElem h2, show (i + 1).toNat = i.toNat + 1 by omega]
  rfl
theorem drop_end {α : Type} {l : List α} {i : Int} (h0 : 0 ≤ i) (h1 : ¬ i < l.length) : l.drop i.toNat = [] := List.drop_eq_nil_of_le (by omega)
theorem bs_rd {s : ByteArray} {i : Int} (h0 : 0 ≤ i) (h1 : i < s.size) : rdOf 0 (bs s) i = bt s i := by
  have h2 : i.toNat < s.size := by omega
  have h3 : i.toNat < s.data.toList.length := by
    rw [Array.length_toList]
    exact h2
  unfold rdOf bs bt
  rw [List.getD_eq_getElem?_getD, List.getElem?_map, List.getElem?_eq_getElem h3, dif_pos h2]
  rfl
theorem bs_drop {s : ByteArray} {i : Int} (h0 : 0 ≤ i) (h1 : i < s.size) : (bs s).drop i.toNat = bt s i :: (bs s).drop (i + 1).toNat := by
  rw [drop_rd (d := 0) h0 (by rw [bs_length]; exact h1), bs_rd h0 h1]
theorem bs_end {s : ByteArray} {i : Int} (h0 : 0 ≤ i) (h1 : ¬ i < s.size) : (bs s).drop i.toNat = [] := drop_end h0 (by rw [bs_length]; exact h1)
theorem strOf_bs (s : ByteArray) : strOfNums (bs s) = s := by
  have e : (bs s).map (fun n => UInt8.ofNat n.toNat) = s.data.toList := by
    unfold bs
    rw [List.map_map]
    conv => rhs; rw [← List.map_id s.data.toList]
    exact List.map_congr_left fun c _ => by simp
  unfold strOfNums
  rw [e]
theorem bs_strOf {l : List Int} (h : ∀ x ∈ l, 0 ≤ x ∧ x < 256) : bs (strOfNums l) = l := by
  unfold bs strOfNums
  rw [List.map_map]
  conv => rhs; rw [← List.map_id l]
  refine List.map_congr_left fun x hx => ?_
  obtain ⟨h0, h1⟩ := h x hx
  simp only [Function.comp_apply, UInt8.toNat_ofNat', id_eq]
  omega
theorem bs_append (a b : ByteArray) : bs (a ++ b) = bs a ++ bs b := by simp [bs]
theorem strOf_append (a b : List Int) : strOfNums (a ++ b) = strOfNums a ++ strOfNums b := by
  cases h : strOfNums a ++ strOfNums b
  rename_i d
  have := congrArg ByteArray.data h
  simp only [ByteArray.data_append] at this
  unfold strOfNums at this ⊢
  simp only [← this]
  simp
theorem ev_id {α : Type} {g : Nat → Option α} {r : α} (h : ∀ k, g k = some r) : Ev g r := ⟨0, fun k _ => h k⟩

def fig (x : Int) : Int := if x < 10 then 48 + x else 87 + x
def hexL : List Int → List Int
  | [] => []
  | c :: l => fig (c / 16) :: fig (c % 16) :: hexL l
theorem l01Figure_some {x : Int} (h0 : 0 ≤ x) (h1 : x < 16) : spec_l01Figure.f x = some (fig x) := by
  unfold spec_l01Figure.f fig
  split
  · rw [w64 (x := 48 + x) (by omega) (by omega), Int.emod_eq_of_lt (by omega) (by omega)]
  · rw [w64 (x := 97 + x) (by omega) (by omega), w64 (x := 97 + x - 10) (by omega) (by omega), Int.emod_eq_of_lt (by omega) (by omega)]
    congr 1
    omega
theorem spec_Hex_l0 (s : ByteArray) (hs : s.size ≤ 20000) (n : Nat) : ∀ (o : List Int) (i : Int), 0 ≤ i → (s.size : Int) - i = n → (o.length : Int) ≤ 2 * i → Ev (fun k => spec_Hex.l0 k s o i) (strOfNums (o ++ hexL ((bs s).drop i.toNat)), true) := by
  induction n with
  | zero =>
    intro o i h0 hi ho
    refine ev_step ?_
    simp only [spec_Hex.l0]
    rw [bs_end h0 (by omega)]
    refine ev_neg (by omega) (ev_eq ?_ (ev_ret _))
    simp [hexL]
  | succ n ih =>
    intro o i h0 hi ho
    refine ev_step ?_
    simp only [spec_Hex.l0]
    have hb := bt_range s i
    refine ev_pos (by omega) (ev_pos h0 ?_)
    rw [w64 (x := bt s i) (by omega) (by omega), Int.tdiv_eq_ediv_of_nonneg hb.1, Int.tmod_eq_emod_of_nonneg hb.1, w64 (x := bt s i / 16) (by omega) (by omega)]
    refine ev_bindc (l01Figure_some (by omega) (by omega)) (ev_bindc (l01Figure_some (by omega) (by omega)) (ev_bindc rfl ?_))
    refine ev_pos (by simp; omega) ?_
    rw [w64 (x := i + 1) (by omega) (by omega), bs_drop h0 (by omega)]
    refine ev_eq ?_ (ih (o ++ [fig (bt s i / 16), fig (bt s i % 16)]) (i + 1) (by omega) (by omega) (by simp; omega))
    simp [hexL]
theorem spec_Hex_ev (s : ByteArray) (hs : s.size ≤ 20000) : Ev (fun k => spec_Hex.f k s) (strOfNums (hexL (bs s)), true) := by
  unfold spec_Hex.f
  exact ev_neg (by omega) (ev_eq (by simp) (spec_Hex_l0 s hs s.size [] 0 (by omega) (by omega) (by simp)))
theorem figs_at {q : Int} (h0 : 0 ≤ q) (h1 : q < 16) : bt (⟨#[48, 49, 50, 51, 52, 53, 54, 55, 56, 57, 97, 98, 99, 100, 101, 102]⟩ : ByteArray) q = fig q := by
  have h := (by decide : ∀ q : Fin 16, bt (⟨#[48, 49, 50, 51, 52, 53, 54, 55, 56, 57, 97, 98, 99, 100, 101, 102]⟩ : ByteArray) (q.val : Int) = fig (q.val : Int)) ⟨q.toNat, by omega⟩
  simpa [Int.toNat_of_nonneg h0] using h
theorem impl_Hex_l0 (s : ByteArray) (hs : s.size ≤ 20000) (n : Nat) : ∀ (o : List Int) (i : Int), 0 ≤ i → (s.size : Int) - i = n → (o.length : Int) ≤ 2 * i → Ev (fun k => impl_Hex.l0 k s o i) (strOfNums (o ++ hexL ((bs s).drop i.toNat)), true) := by
  induction n with
  | zero =>
    intro o i h0 hi ho
    refine ev_step ?_
    simp only [impl_Hex.l0]
    rw [bs_end h0 (by omega)]
    refine ev_neg (by omega) (ev_eq ?_ (ev_ret _))
    simp [hexL]
  | succ n ih =>
    intro o i h0 hi ho
    refine ev_step ?_
    simp only [impl_Hex.l0]
    have hb := bt_range s i
    refine ev_pos (by omega) (ev_pos h0 ?_)
    rw [Int.tdiv_eq_ediv_of_nonneg hb.1, Int.tmod_eq_emod_of_nonneg hb.1, show bt s i / 16 % 256 = bt s i / 16 by omega]
    refine ev_pos (by omega) (ev_pos (by omega) (ev_pos (by omega) (ev_pos (by omega) (ev_bindc rfl ?_))))
    refine ev_pos (by simp; omega) ?_
    rw [w64 (x := i + 1) (by omega) (by omega), bs_drop h0 (by omega), figs_at (by omega) (by omega), figs_at (by omega) (by omega)]
    refine ev_eq ?_ (ih (o ++ [fig (bt s i / 16), fig (bt s i % 16)]) (i + 1) (by omega) (by omega) (by simp; omega))
    simp [hexL]
theorem impl_Hex_ev (s : ByteArray) (hs : s.size ≤ 20000) : Ev (fun k => impl_Hex.f k s) (strOfNums (hexL (bs s)), true) := by
  unfold impl_Hex.f
  exact ev_neg (by omega) (ev_eq (by simp) (impl_Hex_l0 s hs s.size [] 0 (by omega) (by omega) (by simp)))

theorem FnExactHex : laws_FnExactHex.Pure := by
  intro a0 hs
  refine Ev.rounds ?_
  unfold laws_FnExactHex.f
  by_cases c : (a0.size : Int) > 1048576
  · exact ev_pos c (ev_ret _)
  · refine ev_neg c ?_
    by_cases c2 : (a0.size : Int) > 20000
    · refine Ev.bind (a := ((⟨#[]⟩ : ByteArray), false)) ?_ (Ev.bind (a := ((⟨#[]⟩ : ByteArray), false)) ?_ ?_)
      · unfold spec_Hex.f
        exact ev_pos c2 (ev_ret _)
      · unfold impl_Hex.f
        exact ev_pos c2 (ev_ret _)
      · exact ev_pos rfl (ev_neg (by simp) (ev_ret _))
    · refine Ev.bind (spec_Hex_ev a0 (by omega)) (Ev.bind (impl_Hex_ev a0 (by omega)) ?_)
      exact ev_pos rfl (ev_neg (by simp) (ev_ret _))

end Go.Proofs.Ytkjedicbfpedmaa.Pure
