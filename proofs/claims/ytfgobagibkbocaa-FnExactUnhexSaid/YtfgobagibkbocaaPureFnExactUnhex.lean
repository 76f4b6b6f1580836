/- The program's Unhex answers as the reference's at every text. No condition. -/
import Derived.Test.YtfgobagibkbocaaPFnExactUnhexx1
set_option linter.unusedVariables false
set_option linter.unusedSimpArgs false
namespace Go.Proofs.Ytfgobagibkbocaa.Pure
open Go.RowKit Go.Proofs.Ytfgobagibkbocaa.PFnExactUnhex Go.Proofs.YtfgobagibkbocaaW.PrintWords Go.Proofs.YtfgobagibkbocaaW.PrintLast Go.Proofs.YtfgobagibkbocaaW.PrintMore

theorem w64 {x : Int} (h0 : -9223372036854775808 ≤ x) (h1 : x ≤ 9223372036854775807) : wrap64 x = x := by
  unfold wrap64
  omega
theorem wf_i64 {x : Int} (h : (Lit.int .i64 x).wf = true) : -9223372036854775808 ≤ x ∧ x ≤ 9223372036854775807 := by
  simp [Lit.wf, IntKind.min, IntKind.max, IntKind.signed, IntKind.bits] at h
  omega

instance lawBA : LawfulBEq ByteArray where
  eq_of_beq {a b} h := by
    cases a
    cases b
    congr 1
    exact eq_of_beq (α := Array UInt8) h
  rfl {a} := by
    cases a
    exact BEq.rfl (α := Array UInt8)

/-! Rounds -/
theorem ev_step {α : Type} {g : Nat → Option α} {r : α} (h : Ev (fun k => g (k + 1)) r) : Ev g r := Ev.step (fun _ => rfl) h
theorem ev_ret {α : Type} (r : α) : Ev (fun _ => some r) r := ⟨0, fun _ _ => rfl⟩
theorem ev_pos {α : Type} {c : Prop} [Decidable c] {g f : Nat → Option α} {r : α} (h : c) (k : Ev g r) : Ev (fun n => if c then g n else f n) r :=
  Ev.congr (fun _ => if_pos h) k
theorem ev_neg {α : Type} {c : Prop} [Decidable c] {g f : Nat → Option α} {r : α} (h : ¬ c) (k : Ev f r) : Ev (fun n => if c then g n else f n) r :=
  Ev.congr (fun _ => if_neg h) k
theorem ev_bindc {α β : Type} {x : Option α} {f : Nat → α → Option β} {a : α} {r : β} (h : x = some a) (k : Ev (fun n => f n a) r) : Ev (fun n => x.bind (f n)) r := by
  subst h
  exact k
theorem ev_rpos {α : Type} {c : Prop} [Decidable c] {g : Nat → Option α} {a b : α} (h : c) (k : Ev g a) : Ev g (if c then a else b) := by
  rw [if_pos h]
  exact k
theorem ev_rneg {α : Type} {c : Prop} [Decidable c] {g : Nat → Option α} {a b : α} (h : ¬ c) (k : Ev g b) : Ev g (if c then a else b) := by
  rw [if_neg h]
  exact k
theorem ev_eq {α : Type} {g : Nat → Option α} {r r' : α} (h : r = r') (k : Ev g r) : Ev g r' := h ▸ k

/-! Lists and texts as lists of numbers -/
def bs (s : ByteArray) : List Int := s.data.toList.map fun c => (c.toNat : Int)
theorem bs_length (s : ByteArray) : (bs s).length = s.size := by
  unfold bs
  rw [List.length_map, Array.length_toList]
  rfl
theorem bs_range {s : ByteArray} {x : Int} (h : x ∈ bs s) : 0 ≤ x ∧ x < 256 := by
  unfold bs at h
  obtain ⟨c, _, rfl⟩ := List.mem_map.1 h
  have := c.toNat_lt
  omega
theorem bs_inj {a b : ByteArray} (h : bs a = bs b) : a = b := by
  have h2 : a.data.toList = b.data.toList := by
    have h3 := congrArg (List.map fun n : Int => UInt8.ofNat n.toNat) h
    unfold bs at h3
    rw [List.map_map, List.map_map] at h3
    have e : ∀ l : List UInt8, l.map ((fun n : Int => UInt8.ofNat n.toNat) ∘ fun c => (c.toNat : Int)) = l := by
      intro l
      induction l with
      | nil => rfl
      | cons c l ih =>
        rw [List.map_cons, ih]
        simp
    rwa [e, e] at h3
  cases a
  cases b
  congr 1
  exact Array.toList_inj.1 h2
theorem toList_eq_iff {a b : ByteArray} : a.toList = b.toList ↔ a = b := by
  constructor
  · intro h
    rw [ByteArray.toList_eq, ByteArray.toList_eq] at h
    cases a
    cases b
    congr 1
    exact Array.toList_inj.1 h
  · rintro rfl
    rfl
theorem drop_rd {α : Type} {d : α} {l : List α} {i : Int} (h0 : 0 ≤ i) (h1 : i < l.length) : l.drop i.toNat = rdOf d l i :: l.drop (i + 1).toNat := by
  have h2 : i.toNat < l.length := by omega
  rw [List.drop_eq_getElem_cons h2]
  unfold rdOf
  rw [List.getD_eq_getElem?_getD, List.getElem?_eq_getElem h2, show (i + 1).toNat = i.toNat + 1 by omega]
  rfl
theorem drop_end {α : Type} {l : List α} {i : Int} (h0 : 0 ≤ i) (h1 : ¬ i < l.length) : l.drop i.toNat = [] := List.drop_eq_nil_of_le (by omega)
theorem bs_rd {s : ByteArray} {i : Int} (h0 : 0 ≤ i) (h1 : i < s.size) : rdOf 0 (bs s) i = bt s i := by
  have h2 : i.toNat < s.size := by omega
  have h3 : i.toNat < s.data.toList.length := by
    rw [Array.length_toList]
    exact h2
  unfold rdOf bs bt
  rw [List.getD_eq_getElem?_getD, List.getElem?_map, List.getElem?_eq_getElem h3, dif_pos h2]
  rfl
theorem bs_drop {s : ByteArray} {i : Int} (h0 : 0 ≤ i) (h1 : i < s.size) : (bs s).drop i.toNat = bt s i :: (bs s).drop (i + 1).toNat := by
  rw [drop_rd (d := 0) h0 (by rw [bs_length]; exact h1), bs_rd h0 h1]
theorem bs_end {s : ByteArray} {i : Int} (h0 : 0 ≤ i) (h1 : ¬ i < s.size) : (bs s).drop i.toNat = [] := drop_end h0 (by rw [bs_length]; exact h1)
theorem strOf_bs (s : ByteArray) : strOfNums (bs s) = s := by
  have e : (bs s).map (fun n => UInt8.ofNat n.toNat) = s.data.toList := by
    unfold bs
    rw [List.map_map]
    conv => rhs; rw [← List.map_id s.data.toList]
    exact List.map_congr_left fun c _ => by simp
  unfold strOfNums
  rw [e]
theorem bs_strOf {l : List Int} (h : ∀ x ∈ l, 0 ≤ x ∧ x < 256) : bs (strOfNums l) = l := by
  unfold bs strOfNums
  rw [List.map_map]
  conv => rhs; rw [← List.map_id l]
  refine List.map_congr_left fun x hx => ?_
  obtain ⟨h0, h1⟩ := h x hx
  simp only [Function.comp_apply, UInt8.toNat_ofNat', id_eq]
  omega
theorem bs_append (a b : ByteArray) : bs (a ++ b) = bs a ++ bs b := by simp [bs]
theorem strOf_append (a b : List Int) : strOfNums (a ++ b) = strOfNums a ++ strOfNums b := by
  cases h : strOfNums a ++ strOfNums b
  rename_i d
  have := congrArg ByteArray.data h
  simp only [ByteArray.data_append] at this
  unfold strOfNums at this ⊢
  simp only [← this]
  simp
theorem ev_id {α : Type} {g : Nat → Option α} {r : α} (h : ∀ k, g k = some r) : Ev g r := ⟨0, fun k _ => h k⟩

def hexVal (c : Int) : Int := if 48 ≤ c ∧ c ≤ 57 then c - 48 else if 97 ≤ c ∧ c ≤ 102 then c - 87 else -1
def unhexL : List Int → Option (List Int)
  | [] => some []
  | [_] => none
  | a :: b :: l => if hexVal a < 0 ∨ hexVal b < 0 then none else (unhexL l).map fun o => (16 * hexVal a + hexVal b) :: o
def unhexR (o : List Int) : Option (List Int) → ByteArray × Bool
  | none => ((⟨#[]⟩ : ByteArray), false)
  | some l => (strOfNums (o ++ l), true)
def unhexP (s : ByteArray) : ByteArray × Bool := if s.size % 2 = 1 ∨ s.size > 40000 then ((⟨#[]⟩ : ByteArray), false) else unhexR [] (unhexL (bs s))
theorem hexVal_range (c : Int) : -1 ≤ hexVal c ∧ hexVal c ≤ 15 := by
  unfold hexVal
  split
  · omega
  · split <;> omega

theorem index_figs {c : Int} (h0 : 0 ≤ c) (h1 : c ≤ 255) : strings_IndexByte.f (⟨#[48, 49, 50, 51, 52, 53, 54, 55, 56, 57, 97, 98, 99, 100, 101, 102]⟩ : ByteArray) c = some (hexVal c) := by
  unfold strings_IndexByte.f stringslite_IndexByte.f
  simp only [Option.bind_some]
  have h := (by decide +kernel : ∀ q : Fin 256, Lib.indexByte [48, 49, 50, 51, 52, 53, 54, 55, 56, 57, 97, 98, 99, 100, 101, 102] (q.val : Int).toNat.toUInt8 = hexVal (q.val : Int)) ⟨c.toNat, by omega⟩
  simp only [Int.toNat_of_nonneg h0] at h
  rw [← h]
theorem impl_Unhex_l0 (s : ByteArray) (hs : s.size ≤ 40000) (n : Nat) : ∀ (o : List Int) (q i : Int), 0 ≤ i → (s.size : Int) - i = 2 * n → i % 2 = 0 → (o.length : Int) ≤ i → Ev (fun k => impl_Unhex.l0 k s o q i) (unhexR o (unhexL ((bs s).drop i.toNat))) := by
  induction n with
  | zero =>
    intro o q i h0 hn h2 ho
    refine ev_step ?_
    simp only [impl_Unhex.l0]
    rw [bs_end h0 (by omega)]
    exact ev_neg (by omega) (ev_eq (by simp [unhexL, unhexR]) (ev_ret _))
  | succ n ih =>
    intro o q i h0 hn h2 ho
    have b0 := bt_range s i
    have b1 := bt_range s (i + 1)
    have v0 := hexVal_range (bt s i)
    have v1 := hexVal_range (bt s (i + 1))
    refine ev_step ?_
    simp only [impl_Unhex.l0]
    rw [bs_drop h0 (by omega), bs_drop (i := i + 1) (by omega) (by omega)]
    refine ev_pos (by omega) (ev_pos h0 (ev_bindc (index_figs b0.1 b0.2) ?_))
    simp only [unhexL]
    by_cases c : hexVal (bt s i) < 0
    · refine ev_eq (congrArg (unhexR o) (if_pos (Or.inl c)).symm) ?_
      exact ev_pos c (ev_ret _)
    · refine ev_neg c (ev_neg ?_ ?_)
      · rw [Int.tmod_eq_emod_of_nonneg h0]
        omega
      · rw [w64 (x := i + 1) (by omega) (by omega)]
        refine ev_step ?_
        simp only [impl_Unhex.l0]
        refine ev_pos (by omega) (ev_pos (by omega) (ev_bindc (index_figs b1.1 b1.2) ?_))
        by_cases c2 : hexVal (bt s (i + 1)) < 0
        · refine ev_eq (congrArg (unhexR o) (if_pos (Or.inr c2)).symm) ?_
          exact ev_pos c2 (ev_ret _)
        · refine ev_eq (congrArg (unhexR o) (if_neg (fun h => Or.elim h c c2)).symm) ?_
          refine ev_neg c2 (ev_pos ?_ (ev_pos (by omega) ?_))
          · rw [Int.tmod_eq_emod_of_nonneg (by omega)]
            omega
          · rw [w64 (x := 16 * hexVal (bt s i)) (by omega) (by omega), w64 (x := 16 * hexVal (bt s i) + hexVal (bt s (i + 1))) (by omega) (by omega), Int.emod_eq_of_lt (by omega) (by omega), w64 (x := i + 1 + 1) (by omega) (by omega)]
            refine ev_eq ?_ (ih (o ++ [16 * hexVal (bt s i) + hexVal (bt s (i + 1))]) (hexVal (bt s (i + 1))) (i + 1 + 1) (by omega) (by omega) (by omega) (by simp; omega))
            cases unhexL ((bs s).drop (i + 1 + 1).toNat) with
            | none => rfl
            | some l => simp [unhexR]
theorem impl_Unhex_ev (s : ByteArray) (hs : s.size ≤ 140737488351232) : Ev (fun k => impl_Unhex.f k s) (unhexP s) := by
  unfold impl_Unhex.f unhexP
  by_cases c : s.size % 2 = 1
  · refine ev_rpos (Or.inl c) ?_
    refine ev_pos (by omega) (ev_step ?_)
    simp only [impl_Unhex.j0]
    exact ev_pos (by simp) (ev_ret _)
  · refine ev_neg (by omega) (ev_step ?_)
    simp only [impl_Unhex.j0]
    by_cases c2 : s.size > 40000
    · refine ev_rpos (Or.inr c2) ?_
      exact ev_pos (by simp; omega) (ev_ret _)
    · refine ev_rneg (fun h => h.elim c c2) ?_
      have h := impl_Unhex_l0 s (by omega) (s.size / 2) [] 0 0 (by omega) (by omega) (by omega) (by simp)
      exact ev_neg (by simp; omega) (by simpa using h)

theorem l01Value_ev {c : Int} (h0 : 0 ≤ c) (h1 : c ≤ 255) : Ev (fun k => spec_l01Value.f k c) (hexVal c) := by
  unfold spec_l01Value.f hexVal
  have low : ¬ (48 ≤ c ∧ c ≤ 57) → Ev (fun k => spec_l01Value.j0 k c false) (if 97 ≤ c ∧ c ≤ 102 then c - 87 else -1) := by
    intro _
    refine ev_step ?_
    simp only [spec_l01Value.j0]
    refine ev_neg (by simp) ?_
    by_cases a : c ≥ 97
    · refine ev_pos a ?_
      by_cases b : c ≤ 102
      · refine ev_rpos ⟨a, b⟩ ?_
        refine ev_pos b (ev_eq ?_ (ev_ret _))
        rw [w64 (x := c) (by omega) (by omega), w64 (x := c - 97) (by omega) (by omega), w64 (x := c - 97 + 10) (by omega) (by omega)]
        omega
      · refine ev_rneg (fun h => b h.2) ?_
        exact ev_neg b (ev_ret _)
    · refine ev_rneg (fun h => a h.1) ?_
      exact ev_neg a (ev_ret _)
  by_cases a : c ≥ 48
  · refine ev_pos a ?_
    by_cases b : c ≤ 57
    · refine ev_rpos ⟨a, b⟩ ?_
      rw [show decide (c ≤ 57) = true by simpa using b]
      refine ev_step ?_
      simp only [spec_l01Value.j0]
      refine ev_pos (by simp) (ev_eq ?_ (ev_ret _))
      rw [w64 (x := c) (by omega) (by omega), w64 (x := c - 48) (by omega) (by omega)]
    · refine ev_rneg (fun h => b h.2) ?_
      rw [show decide (c ≤ 57) = false by simpa using b]
      exact low (fun h => b h.2)
  · refine ev_rneg (fun h => a h.1) ?_
    exact ev_neg a (low (fun h => a h.1))
theorem spec_Unhex_l0 (s : ByteArray) (hs : s.size ≤ 40000) (n : Nat) : ∀ (o : List Int) (i : Int), 0 ≤ i → (s.size : Int) - i = 2 * n → (o.length : Int) ≤ i → Ev (fun k => spec_Unhex.l0 k s o i) (unhexR o (unhexL ((bs s).drop i.toNat))) := by
  induction n with
  | zero =>
    intro o i h0 hn ho
    refine ev_step ?_
    simp only [spec_Unhex.l0]
    rw [bs_end h0 (by omega)]
    exact ev_neg (by omega) (ev_eq (by simp [unhexL, unhexR]) (ev_ret _))
  | succ n ih =>
    intro o i h0 hn ho
    have b0 := bt_range s i
    have b1 := bt_range s (i + 1)
    have v0 := hexVal_range (bt s i)
    have v1 := hexVal_range (bt s (i + 1))
    refine ev_step ?_
    simp only [spec_Unhex.l0]
    rw [bs_drop h0 (by omega), bs_drop (i := i + 1) (by omega) (by omega), w64 (x := i + 1) (by omega) (by omega), w64 (x := i + 2) (by omega) (by omega)]
    refine ev_pos (by omega) (ev_pos h0 (Ev.bind (l01Value_ev b0.1 b0.2) (ev_pos (by omega) (ev_pos (by omega) (Ev.bind (l01Value_ev b1.1 b1.2) ?_)))))
    simp only [unhexL]
    by_cases c : hexVal (bt s i) < 0
    · refine ev_eq (congrArg (unhexR o) (if_pos (Or.inl c)).symm) ?_
      exact ev_pos c (ev_ret _)
    · refine ev_neg c ?_
      by_cases c2 : hexVal (bt s (i + 1)) < 0
      · refine ev_eq (congrArg (unhexR o) (if_pos (Or.inr c2)).symm) ?_
        exact ev_pos c2 (ev_ret _)
      · refine ev_eq (congrArg (unhexR o) (if_neg (fun h => Or.elim h c c2)).symm) ?_
        refine ev_neg c2 (ev_pos (by omega) ?_)
        rw [w64 (x := 16 * hexVal (bt s i)) (by omega) (by omega), w64 (x := 16 * hexVal (bt s i) + hexVal (bt s (i + 1))) (by omega) (by omega), Int.emod_eq_of_lt (by omega) (by omega)]
        have h := ih (o ++ [16 * hexVal (bt s i) + hexVal (bt s (i + 1))]) (i + 2) (by omega) (by omega) (by simp; omega)
        rw [show i + 1 + 1 = i + 2 by omega]
        refine ev_eq ?_ h
        cases unhexL ((bs s).drop (i + 2).toNat) with
        | none => rfl
        | some l => simp [unhexR]
theorem spec_Unhex_ev (s : ByteArray) (hs : s.size ≤ 140737488351232) : Ev (fun k => spec_Unhex.f k s) (unhexP s) := by
  unfold spec_Unhex.f unhexP
  by_cases c2 : s.size > 40000
  · refine ev_rpos (Or.inr c2) ?_
    refine ev_pos (by omega) (ev_step ?_)
    simp only [spec_Unhex.j0]
    exact ev_pos (by simp) (ev_ret _)
  · refine ev_neg (by omega) (ev_step ?_)
    simp only [spec_Unhex.j0]
    by_cases c : s.size % 2 = 1
    · refine ev_rpos (Or.inl c) ?_
      exact ev_pos (by simp; omega) (ev_ret _)
    · refine ev_rneg (fun h => h.elim c c2) ?_
      have h := spec_Unhex_l0 s (by omega) (s.size / 2) [] 0 (by omega) (by omega) (by simp)
      exact ev_neg (by simp; omega) (by simpa using h)

theorem FnExactUnhex : laws_FnExactUnhex.Pure := by
  intro s hs
  refine Ev.rounds ?_
  unfold laws_FnExactUnhex.f
  by_cases c : (s.size : Int) > 1048576
  · exact ev_pos c (ev_ret _)
  · exact ev_neg c (Ev.bind (spec_Unhex_ev s hs) (Ev.bind (impl_Unhex_ev s hs) (ev_pos rfl (ev_neg (by simp) (ev_ret _)))))

end Go.Proofs.Ytfgobagibkbocaa.Pure
