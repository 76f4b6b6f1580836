/- The program's SameProgram answers as the reference's at every two programs, and leaves them as they were. No condition beyond the law's own bound. -/
import Derived.Test.YtegeahiflkjhmaaOpnFnExactSameProgram
set_option linter.unusedVariables false
set_option linter.unusedSimpArgs false
namespace Go.Proofs.Ytegeahiflkjhmaa.Pure
open Go.RowKit Go.Proofs.Ytegeahiflkjhmaa.PFnExactSameProgram Go.Proofs.YtegeahiflkjhmaaW.PrintWords Go.Proofs.YtegeahiflkjhmaaW.PrintLast Go.Proofs.YtegeahiflkjhmaaW.PrintMore Go.Proofs.Ytegeahiflkjhmaa.Opn Go.Proofs.Ytegeahiflkjhmaa.OpnFnExactSameProgram

theorem w64 {x : Int} (h0 : -9223372036854775808 ≤ x) (h1 : x ≤ 9223372036854775807) : wrap64 x = x := by
  unfold wrap64
  omega
theorem wf_i64 {x : Int} (h : (Lit.int .i64 x).wf = true) : -9223372036854775808 ≤ x ∧ x ≤ 9223372036854775807 := by
  simp [Lit.wf, IntKind.min, IntKind.max, IntKind.signed, IntKind.bits] at h
  omega

instance lawBA : LawfulBEq ByteArray where
  eq_of_beq {a b} h := by
    cases a
    cases b
    congr 1
    exact eq_of_beq (α := Array UInt8) h
  rfl {a} := by
    cases a
    exact BEq.rfl (α := Array UInt8)

/-! Rounds -/
theorem ev_step {α : Type} {g : Nat → Option α} {r : α} (h : Ev (fun k => g (k + 1)) r) : Ev g r := Ev.step (fun _ => rfl) h
theorem ev_ret {α : Type} (r : α) : Ev (fun _ => some r) r := ⟨0, fun _ _ => rfl⟩
theorem ev_pos {α : Type} {c : Prop} [Decidable c] {g f : Nat → Option α} {r : α} (h : c) (k : Ev g r) : Ev (fun n => if c then g n else f n) r :=
  Ev.congr (fun _ => if_pos h) k
theorem ev_neg {α : Type} {c : Prop} [Decidable c] {g f : Nat → Option α} {r : α} (h : ¬ c) (k : Ev f r) : Ev (fun n => if c then g n else f n) r :=
  Ev.congr (fun _ => if_neg h) k
theorem ev_bindc {α β : Type} {x : Option α} {f : Nat → α → Option β} {a : α} {r : β} (h : x = some a) (k : Ev (fun n => f n a) r) : Ev (fun n => x.bind (f n)) r := by
  subst h
  exact k
theorem ev_rpos {α : Type} {c : Prop} [Decidable c] {g : Nat → Option α} {a b : α} (h : c) (k : Ev g a) : Ev g (if c then a else b) := by
  rw [if_pos h]
  exact k
theorem ev_rneg {α : Type} {c : Prop} [Decidable c] {g : Nat → Option α} {a b : α} (h : ¬ c) (k : Ev g b) : Ev g (if c then a else b) := by
  rw [if_neg h]
  exact k
theorem ev_eq {α : Type} {g : Nat → Option α} {r r' : α} (h : r = r') (k : Ev g r) : Ev g r' := h ▸ k

/-! Lists and texts as lists of numbers -/
def bs (s : ByteArray) : List Int := s.data.toList.map fun c => (c.toNat : Int)
theorem bs_length (s : ByteArray) : (bs s).length = s.size := by
  unfold bs
  rw [List.length_map, Array.length_toList]
  rfl
theorem bs_range {s : ByteArray} {x : Int} (h : x ∈ bs s) : 0 ≤ x ∧ x < 256 := by
  unfold bs at h
  obtain ⟨c, _, rfl⟩ := List.mem_map.1 h
  have := c.toNat_lt
  omega
theorem bs_inj {a b : ByteArray} (h : bs a = bs b) : a = b := by
  have h2 : a.data.toList = b.data.toList := by
    have h3 := congrArg (List.map fun n : Int => UInt8.ofNat n.toNat) h
    unfold bs at h3
    rw [List.map_map, List.map_map] at h3
    have e : ∀ l : List UInt8, l.map ((fun n : Int => UInt8.ofNat n.toNat) ∘ fun c => (c.toNat : Int)) = l := by
      intro l
      induction l with
      | nil => rfl
      | cons c l ih =>
        rw [List.map_cons, ih]
        simp
    rwa [e, e] at h3
  cases a
  cases b
  congr 1
  exact Array.toList_inj.1 h2
theorem toList_eq_iff {a b : ByteArray} : a.toList = b.toList ↔ a = b := by
  constructor
  · intro h
    rw [ByteArray.toList_eq, ByteArray.toList_eq] at h
    cases a
    cases b
    congr 1
    exact Array.toList_inj.1 h
  · rintro rfl
    rfl
theorem drop_rd {α : Type} {d : α} {l : List α} {i : Int} (h0 : 0 ≤ i) (h1 : i < l.length) : l.drop i.toNat = rdOf d l i :: l.drop (i + 1).toNat := by
  have h2 : i.toNat < l.length := by omega
  rw [List.drop_eq_getElem_cons h2]
  unfold rdOf
  rw [List.getD_eq_getElem?_getD, List.getElem?_eq_getElem h2, show (i + 1).toNat = i.toNat + 1 by omega]
  rfl
theorem drop_end {α : Type} {l : List α} {i : Int} (h0 : 0 ≤ i) (h1 : ¬ i < l.length) : l.drop i.toNat = [] := List.drop_eq_nil_of_le (by omega)
theorem bs_rd {s : ByteArray} {i : Int} (h0 : 0 ≤ i) (h1 : i < s.size) : rdOf 0 (bs s) i = bt s i := by
  have h2 : i.toNat < s.size := by omega
  have h3 : i.toNat < s.data.toList.length := by
    rw [Array.length_toList]
    exact h2
  unfold rdOf bs bt
  rw [List.getD_eq_getElem?_getD, List.getElem?_map, List.getElem?_eq_getElem h3, dif_pos h2]
  rfl
theorem bs_drop {s : ByteArray} {i : Int} (h0 : 0 ≤ i) (h1 : i < s.size) : (bs s).drop i.toNat = bt s i :: (bs s).drop (i + 1).toNat := by
  rw [drop_rd (d := 0) h0 (by rw [bs_length]; exact h1), bs_rd h0 h1]
theorem bs_end {s : ByteArray} {i : Int} (h0 : 0 ≤ i) (h1 : ¬ i < s.size) : (bs s).drop i.toNat = [] := drop_end h0 (by rw [bs_length]; exact h1)
theorem strOf_bs (s : ByteArray) : strOfNums (bs s) = s := by
  have e : (bs s).map (fun n => UInt8.ofNat n.toNat) = s.data.toList := by
    unfold bs
    rw [List.map_map]
    conv => rhs; rw [← List.map_id s.data.toList]
    exact List.map_congr_left fun c _ => by simp
  unfold strOfNums
  rw [e]
theorem bs_strOf {l : List Int} (h : ∀ x ∈ l, 0 ≤ x ∧ x < 256) : bs (strOfNums l) = l := by
  unfold bs strOfNums
  rw [List.map_map]
  conv => rhs; rw [← List.map_id l]
  refine List.map_congr_left fun x hx => ?_
  obtain ⟨h0, h1⟩ := h x hx
  simp only [Function.comp_apply, UInt8.toNat_ofNat', id_eq]
  omega
theorem bs_append (a b : ByteArray) : bs (a ++ b) = bs a ++ bs b := by simp [bs]
theorem strOf_append (a b : List Int) : strOfNums (a ++ b) = strOfNums a ++ strOfNums b := by
  cases h : strOfNums a ++ strOfNums b
  rename_i d
  have := congrArg ByteArray.data h
  simp only [ByteArray.data_append] at this
  unfold strOfNums at this ⊢
  simp only [← this]
  simp
theorem ev_id {α : Type} {g : Nat → Option α} {r : α} (h : ∀ k, g k = some r) : Ev g r := ⟨0, fun k _ => h k⟩

theorem ev_ite {α : Type} {c : Prop} [Decidable c] {g f : Nat → Option α} {r : α} (h : c → Ev g r) (h' : ¬ c → Ev f r) : Ev (fun n => if c then g n else f n) r :=
  if hc : c then ev_pos hc (h hc) else ev_neg hc (h' hc)

theorem set_take {α : Type} (l : List α) (i : Nat) (x : α) (h : i < l.length) : (l.set i x).take (i + 1) = l.take i ++ [x] := by
  apply List.ext_getElem?
  intro j
  rcases Nat.lt_trichotomy j i with hj | hj | hj
  · rw [List.getElem?_take_of_lt (by omega), List.getElem?_set_ne (by omega), List.getElem?_append_left (by simp; omega), List.getElem?_take_of_lt hj]
  · subst hj
    rw [List.getElem?_take_of_lt (by omega), List.getElem?_set_self h, List.getElem?_append_right (by simp; omega)]
    simp [Nat.min_eq_left (Nat.le_of_lt h)]
  · rw [List.getElem?_eq_none (by simp; omega), List.getElem?_eq_none (by simp; omega)]
theorem take_rd {α : Type} (d : α) {l : List α} {i : Int} (h0 : 0 ≤ i) (h1 : i < l.length) : l.take (i + 1).toNat = l.take i.toNat ++ [rdOf d l i] := by
  have h2 : i.toNat < l.length := by omega
  rw [show (i + 1).toNat = i.toNat + 1 by omega, List.take_succ_eq_append_getElem h2]
  unfold rdOf
  rw [List.getD_eq_getElem?_getD, List.getElem?_eq_getElem h2]
  rfl
theorem rd_rdOf (l : List Int) (i : Int) : rd l i = rdOf 0 l i := rfl
theorem rdOf_mem {α : Type} {d : α} {l : List α} {i : Int} (h0 : 0 ≤ i) (h1 : i < l.length) : rdOf d l i ∈ l := by
  unfold rdOf
  rw [List.getD_eq_getElem?_getD, List.getElem?_eq_getElem (show i.toNat < l.length by omega)]
  exact List.getElem_mem _
/-- A copy made element by element, one round. -/
theorem copy_step {α : Type} (d : α) {src acc : List α} {i : Int} (h0 : 0 ≤ i) (h1 : i < src.length) (hl : acc.length = src.length) (ht : acc.take i.toNat = src.take i.toNat) :
    (acc.set i.toNat (rdOf d src i)).length = src.length ∧ (acc.set i.toNat (rdOf d src i)).take (i + 1).toNat = src.take (i + 1).toNat := by
  refine ⟨by simpa using hl, ?_⟩
  rw [take_rd d h0 h1, ← ht, show (i + 1).toNat = i.toNat + 1 by omega, set_take _ _ _ (by omega)]
theorem copy_end {α : Type} {src acc : List α} {i : Int} (h0 : 0 ≤ i) (h1 : ¬ i < src.length) (hl : acc.length = src.length) (ht : acc.take i.toNat = src.take i.toNat) : acc = src := by
  rw [List.take_of_length_le (by omega), List.take_of_length_le (by omega)] at ht
  exact ht

theorem szStringS_l0 (l : List ByteArray) (hl : l.length ≤ 1048576) (hs : ∀ x ∈ l, x.size ≤ 9223372036854775807) (n : Nat) : ∀ (left i : Int), 0 ≤ left → left ≤ 1048576 → 0 ≤ i → (l.length : Int) - i = n →
    ∃ r, Ev (fun k => laws_szStringS.l0 k l left i) r ∧ r ≤ left ∧ (0 ≤ r → ∀ x ∈ l.drop i.toNat, (x.size : Int) ≤ left) := by
  induction n with
  | zero =>
    intro left i h0 h1 hi hn
    refine ⟨left, ev_step ?_, Int.le_refl _, fun _ x hx => ?_⟩
    · simp only [laws_szStringS.l0]
      exact ev_neg (by omega) (ev_ret _)
    · rw [drop_end hi (by omega)] at hx
      cases hx
  | succ n ih =>
    intro left i h0 h1 hi hn
    have hz := hs _ (rdOf_mem (d := ByteArray.empty) (l := l) hi (by omega))
    rw [drop_rd (d := ByteArray.empty) (l := l) hi (by omega)]
    have step : ∀ r, Ev (fun k => if (wrap64 (left - ((rdOf ByteArray.empty l i).size : Int))) < 0 then (some (-1)) else (laws_szStringS.l0 k l (wrap64 (left - ((rdOf ByteArray.empty l i).size : Int))) (wrap64 (i + 1)))) r → Ev (fun k => laws_szStringS.l0 k l left i) r := by
      intro r h
      refine ev_step ?_
      simp only [laws_szStringS.l0]
      exact ev_pos (by omega) (ev_pos hi h)
    generalize rdOf ByteArray.empty l i = y at hz step ⊢
    rw [w64 (x := left - (y.size : Int)) (by omega) (by omega), w64 (x := i + 1) (by omega) (by omega)] at step
    by_cases c : left - (y.size : Int) < 0
    · exact ⟨-1, step _ (ev_pos c (ev_ret _)), by omega, fun h => by omega⟩
    · obtain ⟨r, hr, hle, hx⟩ := ih (left - y.size) (i + 1) (by omega) (by omega) (by omega) (by omega)
      refine ⟨r, step _ (ev_neg c hr), by omega, fun h x hm => ?_⟩
      rcases List.mem_cons.1 hm with rfl | hm
      · omega
      · have := hx h x hm
        omega
theorem szStringS_ev (l : List ByteArray) (hl : l.length ≤ 9223372036854775807) (hs : ∀ x ∈ l, x.size ≤ 9223372036854775807) (left : Int) (h0 : 0 ≤ left) (h1 : left ≤ 1048576) :
    ∃ r, Ev (fun k => laws_szStringS.f k l left) r ∧ r ≤ left ∧ (0 ≤ r → (l.length : Int) ≤ left ∧ ∀ x ∈ l, (x.size : Int) ≤ left) := by
  unfold laws_szStringS.f
  rw [w64 (x := left - (l.length : Int)) (by omega) (by omega)]
  by_cases c : left - (l.length : Int) < 0
  · exact ⟨-1, ev_pos c (ev_ret _), by omega, fun h => by omega⟩
  · obtain ⟨r, hr, hle, hx⟩ := szStringS_l0 l (by omega) hs l.length (left - l.length) 0 (by omega) (by omega) (by omega) (by omega)
    refine ⟨r, ev_neg c hr, by omega, fun h => ⟨by omega, fun x hm => ?_⟩⟩
    have := hx h x (by simpa using hm)
    omega

theorem szIntS_some (l : List Int) (hl : l.length ≤ 9223372036854775807) (left : Int) (h0 : 0 ≤ left) (h1 : left ≤ 1048576) :
    ∃ r, laws_szIntS.f l left = some r ∧ r ≤ left ∧ (0 ≤ r → (l.length : Int) ≤ left) := by
  unfold laws_szIntS.f
  rw [w64 (x := left - (l.length : Int)) (by omega) (by omega)]
  by_cases c : left - (l.length : Int) < 0
  · exact ⟨-1, if_pos c, by omega, fun h => by omega⟩
  · exact ⟨left - l.length, if_neg c, by omega, fun h => by omega⟩

def okNode (x : S148) : Prop := x.f2.size ≤ 1048576 ∧ x.f3.size ≤ 1048576 ∧ x.f4.size ≤ 1048576 ∧ x.f5.length ≤ 1048576
def okEntry (x : S163) : Prop := x.f0.size ≤ 1048576 ∧ x.f1.size ≤ 1048576
def okMonitor (x : S152) : Prop := x.f0.size ≤ 1048576 ∧ x.f1.length ≤ 1048576 ∧ (∀ s ∈ x.f1, s.size ≤ 1048576) ∧ x.f2.length ≤ 1048576 ∧ (∀ s ∈ x.f2, s.size ≤ 1048576) ∧ x.f3.length ≤ 1048576 ∧ ∀ e ∈ x.f3, okEntry e
def okProcess (x : S154) : Prop := x.f0.size ≤ 1048576 ∧ x.f1.length ≤ 1048576 ∧ (∀ s ∈ x.f1, s.size ≤ 1048576) ∧ x.f2.length ≤ 1048576 ∧ ∀ s ∈ x.f2, s.size ≤ 1048576
theorem szNode_ev (x : S148) (hg : G148 x) (left : Int) (h0 : 0 ≤ left) (h1 : left ≤ 1048576) : ∃ r, Ev (fun _ => laws_szNode.f x.f0 x.f1 x.f2 x.f3 x.f4 x.f5 left) r ∧ r ≤ left ∧ (0 ≤ r → okNode x) := by
  obtain ⟨a, b, c, d, e, f⟩ := x
  obtain ⟨_, _, g2, g3, g4, g5, _⟩ := hg
  have g2 : c.size ≤ 9223372036854775807 := g2
  have g3 : d.size ≤ 9223372036854775807 := g3
  have g4 : e.size ≤ 9223372036854775807 := g4
  have g5 : f.length ≤ 9223372036854775807 := g5
  simp only [laws_szNode.f, okNode]
  rw [w64 (x := left - (c.size : Int)) (by omega) (by omega)]
  by_cases c1 : left - (c.size : Int) < 0
  · exact ⟨-1, ev_pos c1 (ev_ret _), by omega, fun h => by omega⟩
  · rw [w64 (x := left - (c.size : Int) - (d.size : Int)) (by omega) (by omega)]
    by_cases c2 : left - (c.size : Int) - (d.size : Int) < 0
    · exact ⟨-1, ev_neg c1 (ev_pos c2 (ev_ret _)), by omega, fun h => by omega⟩
    · rw [w64 (x := left - (c.size : Int) - (d.size : Int) - (e.size : Int)) (by omega) (by omega)]
      by_cases c3 : left - (c.size : Int) - (d.size : Int) - (e.size : Int) < 0
      · exact ⟨-1, ev_neg c1 (ev_neg c2 (ev_pos c3 (ev_ret _))), by omega, fun h => by omega⟩
      · obtain ⟨r, hr, hle, hx⟩ := szIntS_some f g5 (left - (c.size : Int) - (d.size : Int) - (e.size : Int)) (by omega) (by omega)
        by_cases c4 : r < 0
        · exact ⟨-1, ev_neg c1 (ev_neg c2 (ev_neg c3 (ev_bindc hr (ev_pos c4 (ev_ret _))))), by omega, fun h => by omega⟩
        · have := hx (by omega)
          exact ⟨r, ev_neg c1 (ev_neg c2 (ev_neg c3 (ev_bindc hr (ev_neg c4 (ev_ret _))))), by omega, fun h => by omega⟩
theorem szEntry_ev (x : S163) (hg : G163 x) (left : Int) (h0 : 0 ≤ left) (h1 : left ≤ 1048576) : ∃ r, Ev (fun _ => laws_szEntry.f x.f0 x.f1 x.f2 left) r ∧ r ≤ left ∧ (0 ≤ r → okEntry x) := by
  obtain ⟨a, b, c⟩ := x
  obtain ⟨g1, g2, _⟩ := hg
  have g1 : a.size ≤ 9223372036854775807 := g1
  have g2 : b.size ≤ 9223372036854775807 := g2
  simp only [laws_szEntry.f, okEntry]
  rw [w64 (x := left - (a.size : Int)) (by omega) (by omega)]
  by_cases c1 : left - (a.size : Int) < 0
  · exact ⟨-1, ev_pos c1 (ev_ret _), by omega, fun h => by omega⟩
  · rw [w64 (x := left - (a.size : Int) - (b.size : Int)) (by omega) (by omega)]
    by_cases c2 : left - (a.size : Int) - (b.size : Int) < 0
    · exact ⟨-1, ev_neg c1 (ev_pos c2 (ev_ret _)), by omega, fun h => by omega⟩
    · exact ⟨_, ev_neg c1 (ev_neg c2 (ev_ret _)), by omega, fun h => by omega⟩
theorem szNodeS_l0 (l : List S148) (hl : l.length ≤ 1048576) (hg : ∀ x ∈ l, G148 x) (n : Nat) : ∀ (left i : Int), 0 ≤ left → left ≤ 1048576 → 0 ≤ i → (l.length : Int) - i = n →
    ∃ r, Ev (fun k => laws_szNodeS.l0 k l left i) r ∧ r ≤ left ∧ (0 ≤ r → ∀ x ∈ l.drop i.toNat, okNode x) := by
  induction n with
  | zero =>
    intro left i h0 h1 hi hn
    refine ⟨left, ev_step ?_, Int.le_refl _, fun _ x hx => ?_⟩
    · simp only [laws_szNodeS.l0]
      exact ev_neg (by omega) (ev_ret _)
    · rw [drop_end hi (by omega)] at hx
      cases hx
  | succ n ih =>
    intro left i h0 h1 hi hn
    have hm : rdOf z148 l i ∈ l := rdOf_mem hi (by omega)
    obtain ⟨q, hq, hle, hx⟩ := szNode_ev (rdOf z148 l i) (hg _ hm) left h0 h1
    rw [drop_rd (d := z148) (l := l) hi (by omega)]
    have step : ∀ r, Ev (fun k => if q < 0 then (some (-1)) else (laws_szNodeS.l0 k l q (wrap64 (i + 1)))) r → Ev (fun k => laws_szNodeS.l0 k l left i) r := by
      intro r h
      refine ev_step ?_
      simp only [laws_szNodeS.l0]
      exact ev_pos (by omega) (ev_pos hi (Ev.bind hq h))
    rw [w64 (x := i + 1) (by omega) (by omega)] at step
    by_cases c : q < 0
    · exact ⟨-1, step _ (ev_pos c (ev_ret _)), by omega, fun h => by omega⟩
    · obtain ⟨r, hr, hle2, hx2⟩ := ih q (i + 1) (by omega) (by omega) (by omega) (by omega)
      refine ⟨r, step _ (ev_neg c hr), by omega, fun h x hm => ?_⟩
      rcases List.mem_cons.1 hm with rfl | hm
      · exact hx (by omega)
      · exact hx2 h x hm
theorem szNodeS_ev (l : List S148) (hg : GL G148 l) (left : Int) (h0 : 0 ≤ left) (h1 : left ≤ 1048576) :
    ∃ r, Ev (fun k => laws_szNodeS.f k l left) r ∧ r ≤ left ∧ (0 ≤ r → l.length ≤ 1048576 ∧ ∀ x ∈ l, okNode x) := by
  have hl : l.length ≤ 9223372036854775807 := hg.1
  unfold laws_szNodeS.f
  rw [w64 (x := left - (l.length : Int)) (by omega) (by omega)]
  by_cases c : left - (l.length : Int) < 0
  · exact ⟨-1, ev_pos c (ev_ret _), by omega, fun h => by omega⟩
  · obtain ⟨r, hr, hle, hx⟩ := szNodeS_l0 l (by omega) hg.2 l.length (left - l.length) 0 (by omega) (by omega) (by omega) (by omega)
    exact ⟨r, ev_neg c hr, by omega, fun h => ⟨by omega, fun x hm => hx h x (by simpa using hm)⟩⟩
theorem szEntryS_l0 (l : List S163) (hl : l.length ≤ 1048576) (hg : ∀ x ∈ l, G163 x) (n : Nat) : ∀ (left i : Int), 0 ≤ left → left ≤ 1048576 → 0 ≤ i → (l.length : Int) - i = n →
    ∃ r, Ev (fun k => laws_szEntryS.l0 k l left i) r ∧ r ≤ left ∧ (0 ≤ r → ∀ x ∈ l.drop i.toNat, okEntry x) := by
  induction n with
  | zero =>
    intro left i h0 h1 hi hn
    refine ⟨left, ev_step ?_, Int.le_refl _, fun _ x hx => ?_⟩
    · simp only [laws_szEntryS.l0]
      exact ev_neg (by omega) (ev_ret _)
    · rw [drop_end hi (by omega)] at hx
      cases hx
  | succ n ih =>
    intro left i h0 h1 hi hn
    have hm : rdOf z163 l i ∈ l := rdOf_mem hi (by omega)
    obtain ⟨q, hq, hle, hx⟩ := szEntry_ev (rdOf z163 l i) (hg _ hm) left h0 h1
    rw [drop_rd (d := z163) (l := l) hi (by omega)]
    have step : ∀ r, Ev (fun k => if q < 0 then (some (-1)) else (laws_szEntryS.l0 k l q (wrap64 (i + 1)))) r → Ev (fun k => laws_szEntryS.l0 k l left i) r := by
      intro r h
      refine ev_step ?_
      simp only [laws_szEntryS.l0]
      exact ev_pos (by omega) (ev_pos hi (Ev.bind hq h))
    rw [w64 (x := i + 1) (by omega) (by omega)] at step
    by_cases c : q < 0
    · exact ⟨-1, step _ (ev_pos c (ev_ret _)), by omega, fun h => by omega⟩
    · obtain ⟨r, hr, hle2, hx2⟩ := ih q (i + 1) (by omega) (by omega) (by omega) (by omega)
      refine ⟨r, step _ (ev_neg c hr), by omega, fun h x hm => ?_⟩
      rcases List.mem_cons.1 hm with rfl | hm
      · exact hx (by omega)
      · exact hx2 h x hm
theorem szEntryS_ev (l : List S163) (hg : GL G163 l) (left : Int) (h0 : 0 ≤ left) (h1 : left ≤ 1048576) :
    ∃ r, Ev (fun k => laws_szEntryS.f k l left) r ∧ r ≤ left ∧ (0 ≤ r → l.length ≤ 1048576 ∧ ∀ x ∈ l, okEntry x) := by
  have hl : l.length ≤ 9223372036854775807 := hg.1
  unfold laws_szEntryS.f
  rw [w64 (x := left - (l.length : Int)) (by omega) (by omega)]
  by_cases c : left - (l.length : Int) < 0
  · exact ⟨-1, ev_pos c (ev_ret _), by omega, fun h => by omega⟩
  · obtain ⟨r, hr, hle, hx⟩ := szEntryS_l0 l (by omega) hg.2 l.length (left - l.length) 0 (by omega) (by omega) (by omega) (by omega)
    exact ⟨r, ev_neg c hr, by omega, fun h => ⟨by omega, fun x hm => hx h x (by simpa using hm)⟩⟩
theorem szStrs_ok {l : List ByteArray} {left : Int} (h1 : left ≤ 1048576) (h : (l.length : Int) ≤ left ∧ ∀ x ∈ l, (x.size : Int) ≤ left) : l.length ≤ 1048576 ∧ ∀ s ∈ l, s.size ≤ 1048576 := by
  refine ⟨by omega, fun s hs => ?_⟩
  have := h.2 s hs
  omega
theorem szMonitor_ev (x : S152) (hg : G152 x) (left : Int) (h0 : 0 ≤ left) (h1 : left ≤ 1048576) : ∃ r, Ev (fun k => laws_szMonitor.f k x.f0 x.f1 x.f2 x.f3 left) r ∧ r ≤ left ∧ (0 ≤ r → okMonitor x) := by
  obtain ⟨a, b, c, d⟩ := x
  obtain ⟨g0, ⟨g1, g1'⟩, ⟨g2, g2'⟩, g3⟩ := hg
  have g0 : a.size ≤ 9223372036854775807 := g0
  simp only [laws_szMonitor.f, okMonitor]
  rw [w64 (x := left - (a.size : Int)) (by omega) (by omega)]
  by_cases c1 : left - (a.size : Int) < 0
  · exact ⟨-1, ev_pos c1 (ev_ret _), by omega, fun h => by omega⟩
  · obtain ⟨p, hp, hple, hpx⟩ := szStringS_ev b g1 g1' (left - (a.size : Int)) (by omega) (by omega)
    by_cases c2 : p < 0
    · exact ⟨-1, ev_neg c1 (Ev.bind hp (ev_pos c2 (ev_ret _))), by omega, fun h => by omega⟩
    · obtain ⟨q, hq, hqle, hqx⟩ := szStringS_ev c g2 g2' p (by omega) (by omega)
      by_cases c3 : q < 0
      · exact ⟨-1, ev_neg c1 (Ev.bind hp (ev_neg c2 (Ev.bind hq (ev_pos c3 (ev_ret _))))), by omega, fun h => by omega⟩
      · obtain ⟨r, hr, hrle, hrx⟩ := szEntryS_ev d g3 q (by omega) (by omega)
        by_cases c4 : r < 0
        · exact ⟨-1, ev_neg c1 (Ev.bind hp (ev_neg c2 (Ev.bind hq (ev_neg c3 (Ev.bind hr (ev_pos c4 (ev_ret _))))))), by omega, fun h => by omega⟩
        · refine ⟨r, ev_neg c1 (Ev.bind hp (ev_neg c2 (Ev.bind hq (ev_neg c3 (Ev.bind hr (ev_neg c4 (ev_ret _))))))), by omega, fun h => ?_⟩
          obtain ⟨e1, e2⟩ := szStrs_ok (by omega) (hpx (by omega))
          obtain ⟨e3, e4⟩ := szStrs_ok (by omega) (hqx (by omega))
          obtain ⟨e5, e6⟩ := hrx (by omega)
          exact ⟨by omega, e1, e2, e3, e4, e5, e6⟩
theorem szProcess_ev (x : S154) (hg : G154 x) (left : Int) (h0 : 0 ≤ left) (h1 : left ≤ 1048576) : ∃ r, Ev (fun k => laws_szProcess.f k x.f0 x.f1 x.f2 x.f3 left) r ∧ r ≤ left ∧ (0 ≤ r → okProcess x) := by
  obtain ⟨a, b, c, d⟩ := x
  obtain ⟨g0, ⟨g1, g1'⟩, ⟨g2, g2'⟩, _⟩ := hg
  have g0 : a.size ≤ 9223372036854775807 := g0
  simp only [laws_szProcess.f, okProcess]
  rw [w64 (x := left - (a.size : Int)) (by omega) (by omega)]
  by_cases c1 : left - (a.size : Int) < 0
  · exact ⟨-1, ev_pos c1 (ev_ret _), by omega, fun h => by omega⟩
  · obtain ⟨p, hp, hple, hpx⟩ := szStringS_ev b g1 g1' (left - (a.size : Int)) (by omega) (by omega)
    by_cases c2 : p < 0
    · exact ⟨-1, ev_neg c1 (Ev.bind hp (ev_pos c2 (ev_ret _))), by omega, fun h => by omega⟩
    · obtain ⟨q, hq, hqle, hqx⟩ := szStringS_ev c g2 g2' p (by omega) (by omega)
      by_cases c3 : q < 0
      · exact ⟨-1, ev_neg c1 (Ev.bind hp (ev_neg c2 (Ev.bind hq (ev_pos c3 (ev_ret _))))), by omega, fun h => by omega⟩
      · refine ⟨q, ev_neg c1 (Ev.bind hp (ev_neg c2 (Ev.bind hq (ev_neg c3 (ev_ret _))))), by omega, fun h => ?_⟩
        obtain ⟨e1, e2⟩ := szStrs_ok (by omega) (hpx (by omega))
        obtain ⟨e3, e4⟩ := szStrs_ok (by omega) (hqx (by omega))
        exact ⟨by omega, e1, e2, e3, e4⟩
theorem szMonitorS_l0 (l : List S152) (hl : l.length ≤ 1048576) (hg : ∀ x ∈ l, G152 x) (n : Nat) : ∀ (left i : Int), 0 ≤ left → left ≤ 1048576 → 0 ≤ i → (l.length : Int) - i = n →
    ∃ r, Ev (fun k => laws_szMonitorS.l0 k l left i) r ∧ r ≤ left ∧ (0 ≤ r → ∀ x ∈ l.drop i.toNat, okMonitor x) := by
  induction n with
  | zero =>
    intro left i h0 h1 hi hn
    refine ⟨left, ev_step ?_, Int.le_refl _, fun _ x hx => ?_⟩
    · simp only [laws_szMonitorS.l0]
      exact ev_neg (by omega) (ev_ret _)
    · rw [drop_end hi (by omega)] at hx
      cases hx
  | succ n ih =>
    intro left i h0 h1 hi hn
    have hm : rdOf z152 l i ∈ l := rdOf_mem hi (by omega)
    obtain ⟨q, hq, hle, hx⟩ := szMonitor_ev (rdOf z152 l i) (hg _ hm) left h0 h1
    rw [drop_rd (d := z152) (l := l) hi (by omega)]
    have step : ∀ r, Ev (fun k => if q < 0 then (some (-1)) else (laws_szMonitorS.l0 k l q (wrap64 (i + 1)))) r → Ev (fun k => laws_szMonitorS.l0 k l left i) r := by
      intro r h
      refine ev_step ?_
      simp only [laws_szMonitorS.l0]
      exact ev_pos (by omega) (ev_pos hi (Ev.bind hq h))
    rw [w64 (x := i + 1) (by omega) (by omega)] at step
    by_cases c : q < 0
    · exact ⟨-1, step _ (ev_pos c (ev_ret _)), by omega, fun h => by omega⟩
    · obtain ⟨r, hr, hle2, hx2⟩ := ih q (i + 1) (by omega) (by omega) (by omega) (by omega)
      refine ⟨r, step _ (ev_neg c hr), by omega, fun h x hm => ?_⟩
      rcases List.mem_cons.1 hm with rfl | hm
      · exact hx (by omega)
      · exact hx2 h x hm
theorem szMonitorS_ev (l : List S152) (hg : GL G152 l) (left : Int) (h0 : 0 ≤ left) (h1 : left ≤ 1048576) :
    ∃ r, Ev (fun k => laws_szMonitorS.f k l left) r ∧ r ≤ left ∧ (0 ≤ r → l.length ≤ 1048576 ∧ ∀ x ∈ l, okMonitor x) := by
  have hl : l.length ≤ 9223372036854775807 := hg.1
  unfold laws_szMonitorS.f
  rw [w64 (x := left - (l.length : Int)) (by omega) (by omega)]
  by_cases c : left - (l.length : Int) < 0
  · exact ⟨-1, ev_pos c (ev_ret _), by omega, fun h => by omega⟩
  · obtain ⟨r, hr, hle, hx⟩ := szMonitorS_l0 l (by omega) hg.2 l.length (left - l.length) 0 (by omega) (by omega) (by omega) (by omega)
    exact ⟨r, ev_neg c hr, by omega, fun h => ⟨by omega, fun x hm => hx h x (by simpa using hm)⟩⟩
theorem szProcessS_l0 (l : List S154) (hl : l.length ≤ 1048576) (hg : ∀ x ∈ l, G154 x) (n : Nat) : ∀ (left i : Int), 0 ≤ left → left ≤ 1048576 → 0 ≤ i → (l.length : Int) - i = n →
    ∃ r, Ev (fun k => laws_szProcessS.l0 k l left i) r ∧ r ≤ left ∧ (0 ≤ r → ∀ x ∈ l.drop i.toNat, okProcess x) := by
  induction n with
  | zero =>
    intro left i h0 h1 hi hn
    refine ⟨left, ev_step ?_, Int.le_refl _, fun _ x hx => ?_⟩
    · simp only [laws_szProcessS.l0]
      exact ev_neg (by omega) (ev_ret _)
    · rw [drop_end hi (by omega)] at hx
      cases hx
  | succ n ih =>
    intro left i h0 h1 hi hn
    have hm : rdOf z154 l i ∈ l := rdOf_mem hi (by omega)
    obtain ⟨q, hq, hle, hx⟩ := szProcess_ev (rdOf z154 l i) (hg _ hm) left h0 h1
    rw [drop_rd (d := z154) (l := l) hi (by omega)]
    have step : ∀ r, Ev (fun k => if q < 0 then (some (-1)) else (laws_szProcessS.l0 k l q (wrap64 (i + 1)))) r → Ev (fun k => laws_szProcessS.l0 k l left i) r := by
      intro r h
      refine ev_step ?_
      simp only [laws_szProcessS.l0]
      exact ev_pos (by omega) (ev_pos hi (Ev.bind hq h))
    rw [w64 (x := i + 1) (by omega) (by omega)] at step
    by_cases c : q < 0
    · exact ⟨-1, step _ (ev_pos c (ev_ret _)), by omega, fun h => by omega⟩
    · obtain ⟨r, hr, hle2, hx2⟩ := ih q (i + 1) (by omega) (by omega) (by omega) (by omega)
      refine ⟨r, step _ (ev_neg c hr), by omega, fun h x hm => ?_⟩
      rcases List.mem_cons.1 hm with rfl | hm
      · exact hx (by omega)
      · exact hx2 h x hm
theorem szProcessS_ev (l : List S154) (hg : GL G154 l) (left : Int) (h0 : 0 ≤ left) (h1 : left ≤ 1048576) :
    ∃ r, Ev (fun k => laws_szProcessS.f k l left) r ∧ r ≤ left ∧ (0 ≤ r → l.length ≤ 1048576 ∧ ∀ x ∈ l, okProcess x) := by
  have hl : l.length ≤ 9223372036854775807 := hg.1
  unfold laws_szProcessS.f
  rw [w64 (x := left - (l.length : Int)) (by omega) (by omega)]
  by_cases c : left - (l.length : Int) < 0
  · exact ⟨-1, ev_pos c (ev_ret _), by omega, fun h => by omega⟩
  · obtain ⟨r, hr, hle, hx⟩ := szProcessS_l0 l (by omega) hg.2 l.length (left - l.length) 0 (by omega) (by omega) (by omega) (by omega)
    exact ⟨r, ev_neg c hr, by omega, fun h => ⟨by omega, fun x hm => hx h x (by simpa using hm)⟩⟩
def okProg (a : List S148) (b : List S152) (c : List S154) : Prop := (a.length ≤ 1048576 ∧ ∀ x ∈ a, okNode x) ∧ (b.length ≤ 1048576 ∧ ∀ x ∈ b, okMonitor x) ∧ (c.length ≤ 1048576 ∧ ∀ x ∈ c, okProcess x)
theorem szProgram_ev (a : List S148) (b : List S152) (c : List S154) (ga : GL G148 a) (gb : GL G152 b) (gc : GL G154 c) (left : Int) (h0 : 0 ≤ left) (h1 : left ≤ 1048576) :
    ∃ r, Ev (fun k => laws_szProgram.f k a b c left) r ∧ r ≤ left ∧ (0 ≤ r → okProg a b c) := by
  unfold laws_szProgram.f
  obtain ⟨p, hp, hple, hpx⟩ := szNodeS_ev a ga left h0 h1
  by_cases c1 : p < 0
  · exact ⟨-1, Ev.bind hp (ev_pos c1 (ev_ret _)), by omega, fun h => by omega⟩
  · obtain ⟨q, hq, hqle, hqx⟩ := szMonitorS_ev b gb p (by omega) (by omega)
    by_cases c2 : q < 0
    · exact ⟨-1, Ev.bind hp (ev_neg c1 (Ev.bind hq (ev_pos c2 (ev_ret _)))), by omega, fun h => by omega⟩
    · obtain ⟨r, hr, hrle, hrx⟩ := szProcessS_ev c gc q (by omega) (by omega)
      by_cases c3 : r < 0
      · exact ⟨-1, Ev.bind hp (ev_neg c1 (Ev.bind hq (ev_neg c2 (Ev.bind hr (ev_pos c3 (ev_ret _)))))), by omega, fun h => by omega⟩
      · exact ⟨r, Ev.bind hp (ev_neg c1 (Ev.bind hq (ev_neg c2 (Ev.bind hr (ev_neg c3 (ev_ret _)))))), by omega, fun h => ⟨hpx (by omega), hqx (by omega), hrx (by omega)⟩⟩

theorem toStringS_l0 (src : List ByteArray) (hl : src.length ≤ 1048576) (n : Nat) : ∀ (acc : List ByteArray) (i : Int), 0 ≤ i → (src.length : Int) - i = n → acc.length = src.length → acc.take i.toNat = src.take i.toNat → Ev (fun k => laws_toStringS.l0 k src acc i) src := by
  induction n with
  | zero =>
    intro acc i h0 hn ha ht
    refine ev_step ?_
    simp only [laws_toStringS.l0]
    exact ev_neg (by omega) (ev_eq (copy_end h0 (by omega) ha ht) (ev_ret _))
  | succ n ih =>
    intro acc i h0 hn ha ht
    refine ev_step ?_
    simp only [laws_toStringS.l0]
    obtain ⟨h2, h3⟩ := copy_step ByteArray.empty h0 (by omega) ha ht
    refine ev_pos (by omega) (ev_pos h0 (ev_pos (by omega) ?_))
    rw [w64 (x := i + 1) (by omega) (by omega)]
    exact ih _ (i + 1) (by omega) (by omega) h2 h3
theorem toStringS_ev (src : List ByteArray) (hl : src.length ≤ 1048576) : Ev (fun k => laws_toStringS.f k src) src := by
  unfold laws_toStringS.f
  exact ev_pos (by omega) (ev_pos (by omega) (toStringS_l0 src hl src.length _ 0 (by omega) (by omega) (by simp) rfl))

theorem toIntS_l0 (src : List Int) (hl : src.length ≤ 1048576) (n : Nat) : ∀ (acc : List Int) (i : Int), 0 ≤ i → (src.length : Int) - i = n → acc.length = src.length → acc.take i.toNat = src.take i.toNat → Ev (fun k => laws_toIntS.l0 k src acc i) src := by
  induction n with
  | zero =>
    intro acc i h0 hn ha ht
    refine ev_step ?_
    simp only [laws_toIntS.l0]
    exact ev_neg (by omega) (ev_eq (copy_end h0 (by omega) ha ht) (ev_ret _))
  | succ n ih =>
    intro acc i h0 hn ha ht
    refine ev_step ?_
    simp only [laws_toIntS.l0, rd_rdOf]
    obtain ⟨h2, h3⟩ := copy_step 0 h0 (by omega) ha ht
    refine ev_pos (by omega) (ev_pos h0 (ev_pos (by omega) ?_))
    rw [w64 (x := i + 1) (by omega) (by omega)]
    exact ih _ (i + 1) (by omega) (by omega) h2 h3
theorem toIntS_ev (src : List Int) (hl : src.length ≤ 1048576) : Ev (fun k => laws_toIntS.f k src) src := by
  unfold laws_toIntS.f
  exact ev_pos (by omega) (ev_pos (by omega) (toIntS_l0 src hl src.length _ 0 (by omega) (by omega) (by simp) rfl))

def cNode (x : S148) : S132 := ⟨x.f0, x.f1, x.f2, x.f3, x.f4, x.f5⟩
def cEntry (x : S163) : S125 := ⟨x.f0, x.f1, x.f2⟩
def cMonitor (x : S152) : S114 := ⟨x.f0, x.f1, x.f2, x.f3.map cEntry⟩
def cProcess (x : S154) : S130 := ⟨x.f0, x.f1, x.f2, x.f3⟩
theorem toNode_ev (x : S148) (h : okNode x) : Ev (fun k => laws_toNode.f k x.f0 x.f1 x.f2 x.f3 x.f4 x.f5) (x.f0, x.f1, x.f2, x.f3, x.f4, x.f5) := by
  unfold laws_toNode.f
  exact Ev.bind (toIntS_ev _ h.2.2.2) (ev_ret _)
theorem toEntry_ev (x : S163) (h : okEntry x) : Ev (fun _ => laws_toEntry.f x.f0 x.f1 x.f2) (x.f0, x.f1, x.f2) := by
  unfold laws_toEntry.f
  exact ev_ret _
theorem toProcess_ev (x : S154) (h : okProcess x) : Ev (fun k => laws_toProcess.f k x.f0 x.f1 x.f2 x.f3) (x.f0, x.f1, x.f2, x.f3) := by
  unfold laws_toProcess.f
  exact Ev.bind (toStringS_ev _ h.2.1) (Ev.bind (toStringS_ev _ h.2.2.2.1) (ev_ret _))
theorem toNodeS_l0 (l : List S148) (hl : l.length ≤ 1048576) (hk : ∀ x ∈ l, okNode x) (n : Nat) : ∀ (acc : List S132) (i : Int), 0 ≤ i → (l.length : Int) - i = n → acc.length = (l.map cNode).length → acc.take i.toNat = (l.map cNode).take i.toNat → Ev (fun k => laws_toNodeS.l0 k l acc i) (l.map cNode) := by
  have hlm : (l.map cNode).length = l.length := List.length_map ..
  induction n with
  | zero =>
    intro acc i h0 hn ha ht
    refine ev_step ?_
    simp only [laws_toNodeS.l0]
    exact ev_neg (by omega) (ev_eq (copy_end h0 (by omega) ha ht) (ev_ret _))
  | succ n ih =>
    intro acc i h0 hn ha ht
    refine ev_step ?_
    simp only [laws_toNodeS.l0]
    have hm : rdOf z148 l i ∈ l := rdOf_mem h0 (by omega)
    obtain ⟨h2, h3⟩ := copy_step z132 h0 (by omega) ha ht
    have hv : rdOf z132 (l.map cNode) i = cNode (rdOf z148 l i) := by
      unfold rdOf
      rw [List.getD_eq_getElem?_getD, List.getD_eq_getElem?_getD, List.getElem?_map, List.getElem?_eq_getElem (show i.toNat < l.length by omega)]
      rfl
    rw [hv] at h2 h3
    refine ev_pos (by omega) (ev_pos h0 (Ev.bind (toNode_ev (rdOf z148 l i) (hk _ hm)) (ev_pos (by omega) ?_)))
    rw [w64 (x := i + 1) (by omega) (by omega)]
    exact ih _ (i + 1) (by omega) (by omega) h2 h3
theorem toNodeS_ev (l : List S148) (hl : l.length ≤ 1048576) (hk : ∀ x ∈ l, okNode x) : Ev (fun k => laws_toNodeS.f k l) (l.map cNode) := by
  unfold laws_toNodeS.f
  exact ev_pos (by omega) (ev_pos (by omega) (toNodeS_l0 l hl hk l.length _ 0 (by omega) (by omega) (by simp) rfl))
theorem toEntryS_l0 (l : List S163) (hl : l.length ≤ 1048576) (hk : ∀ x ∈ l, okEntry x) (n : Nat) : ∀ (acc : List S125) (i : Int), 0 ≤ i → (l.length : Int) - i = n → acc.length = (l.map cEntry).length → acc.take i.toNat = (l.map cEntry).take i.toNat → Ev (fun k => laws_toEntryS.l0 k l acc i) (l.map cEntry) := by
  have hlm : (l.map cEntry).length = l.length := List.length_map ..
  induction n with
  | zero =>
    intro acc i h0 hn ha ht
    refine ev_step ?_
    simp only [laws_toEntryS.l0]
    exact ev_neg (by omega) (ev_eq (copy_end h0 (by omega) ha ht) (ev_ret _))
  | succ n ih =>
    intro acc i h0 hn ha ht
    refine ev_step ?_
    simp only [laws_toEntryS.l0]
    have hm : rdOf z163 l i ∈ l := rdOf_mem h0 (by omega)
    obtain ⟨h2, h3⟩ := copy_step z125 h0 (by omega) ha ht
    have hv : rdOf z125 (l.map cEntry) i = cEntry (rdOf z163 l i) := by
      unfold rdOf
      rw [List.getD_eq_getElem?_getD, List.getD_eq_getElem?_getD, List.getElem?_map, List.getElem?_eq_getElem (show i.toNat < l.length by omega)]
      rfl
    rw [hv] at h2 h3
    refine ev_pos (by omega) (ev_pos h0 (Ev.bind (toEntry_ev (rdOf z163 l i) (hk _ hm)) (ev_pos (by omega) ?_)))
    rw [w64 (x := i + 1) (by omega) (by omega)]
    exact ih _ (i + 1) (by omega) (by omega) h2 h3
theorem toEntryS_ev (l : List S163) (hl : l.length ≤ 1048576) (hk : ∀ x ∈ l, okEntry x) : Ev (fun k => laws_toEntryS.f k l) (l.map cEntry) := by
  unfold laws_toEntryS.f
  exact ev_pos (by omega) (ev_pos (by omega) (toEntryS_l0 l hl hk l.length _ 0 (by omega) (by omega) (by simp) rfl))
theorem toMonitor_ev (x : S152) (h : okMonitor x) : Ev (fun k => laws_toMonitor.f k x.f0 x.f1 x.f2 x.f3) (x.f0, x.f1, x.f2, x.f3.map cEntry) := by
  unfold laws_toMonitor.f
  exact Ev.bind (toStringS_ev _ h.2.1) (Ev.bind (toStringS_ev _ h.2.2.2.1) (Ev.bind (toEntryS_ev _ h.2.2.2.2.2.1 h.2.2.2.2.2.2) (ev_ret _)))
theorem toMonitorS_l0 (l : List S152) (hl : l.length ≤ 1048576) (hk : ∀ x ∈ l, okMonitor x) (n : Nat) : ∀ (acc : List S114) (i : Int), 0 ≤ i → (l.length : Int) - i = n → acc.length = (l.map cMonitor).length → acc.take i.toNat = (l.map cMonitor).take i.toNat → Ev (fun k => laws_toMonitorS.l0 k l acc i) (l.map cMonitor) := by
  have hlm : (l.map cMonitor).length = l.length := List.length_map ..
  induction n with
  | zero =>
    intro acc i h0 hn ha ht
    refine ev_step ?_
    simp only [laws_toMonitorS.l0]
    exact ev_neg (by omega) (ev_eq (copy_end h0 (by omega) ha ht) (ev_ret _))
  | succ n ih =>
    intro acc i h0 hn ha ht
    refine ev_step ?_
    simp only [laws_toMonitorS.l0]
    have hm : rdOf z152 l i ∈ l := rdOf_mem h0 (by omega)
    obtain ⟨h2, h3⟩ := copy_step z114 h0 (by omega) ha ht
    have hv : rdOf z114 (l.map cMonitor) i = cMonitor (rdOf z152 l i) := by
      unfold rdOf
      rw [List.getD_eq_getElem?_getD, List.getD_eq_getElem?_getD, List.getElem?_map, List.getElem?_eq_getElem (show i.toNat < l.length by omega)]
      rfl
    rw [hv] at h2 h3
    refine ev_pos (by omega) (ev_pos h0 (Ev.bind (toMonitor_ev (rdOf z152 l i) (hk _ hm)) (ev_pos (by omega) ?_)))
    rw [w64 (x := i + 1) (by omega) (by omega)]
    exact ih _ (i + 1) (by omega) (by omega) h2 h3
theorem toMonitorS_ev (l : List S152) (hl : l.length ≤ 1048576) (hk : ∀ x ∈ l, okMonitor x) : Ev (fun k => laws_toMonitorS.f k l) (l.map cMonitor) := by
  unfold laws_toMonitorS.f
  exact ev_pos (by omega) (ev_pos (by omega) (toMonitorS_l0 l hl hk l.length _ 0 (by omega) (by omega) (by simp) rfl))
theorem toProcessS_l0 (l : List S154) (hl : l.length ≤ 1048576) (hk : ∀ x ∈ l, okProcess x) (n : Nat) : ∀ (acc : List S130) (i : Int), 0 ≤ i → (l.length : Int) - i = n → acc.length = (l.map cProcess).length → acc.take i.toNat = (l.map cProcess).take i.toNat → Ev (fun k => laws_toProcessS.l0 k l acc i) (l.map cProcess) := by
  have hlm : (l.map cProcess).length = l.length := List.length_map ..
  induction n with
  | zero =>
    intro acc i h0 hn ha ht
    refine ev_step ?_
    simp only [laws_toProcessS.l0]
    exact ev_neg (by omega) (ev_eq (copy_end h0 (by omega) ha ht) (ev_ret _))
  | succ n ih =>
    intro acc i h0 hn ha ht
    refine ev_step ?_
    simp only [laws_toProcessS.l0]
    have hm : rdOf z154 l i ∈ l := rdOf_mem h0 (by omega)
    obtain ⟨h2, h3⟩ := copy_step z130 h0 (by omega) ha ht
    have hv : rdOf z130 (l.map cProcess) i = cProcess (rdOf z154 l i) := by
      unfold rdOf
      rw [List.getD_eq_getElem?_getD, List.getD_eq_getElem?_getD, List.getElem?_map, List.getElem?_eq_getElem (show i.toNat < l.length by omega)]
      rfl
    rw [hv] at h2 h3
    refine ev_pos (by omega) (ev_pos h0 (Ev.bind (toProcess_ev (rdOf z154 l i) (hk _ hm)) (ev_pos (by omega) ?_)))
    rw [w64 (x := i + 1) (by omega) (by omega)]
    exact ih _ (i + 1) (by omega) (by omega) h2 h3
theorem toProcessS_ev (l : List S154) (hl : l.length ≤ 1048576) (hk : ∀ x ∈ l, okProcess x) : Ev (fun k => laws_toProcessS.f k l) (l.map cProcess) := by
  unfold laws_toProcessS.f
  exact ev_pos (by omega) (ev_pos (by omega) (toProcessS_l0 l hl hk l.length _ 0 (by omega) (by omega) (by simp) rfl))
theorem toProgram_ev (a : List S148) (b : List S152) (c : List S154) (h : okProg a b c) : Ev (fun k => laws_toProgram.f k a b c) (a.map cNode, b.map cMonitor, c.map cProcess) := by
  unfold laws_toProgram.f
  exact Ev.bind (toNodeS_ev _ h.1.1 h.1.2) (Ev.bind (toMonitorS_ev _ h.2.1.1 h.2.1.2) (Ev.bind (toProcessS_ev _ h.2.2.1 h.2.2.2) (ev_ret _)))

theorem eqStringS_l0 (l : List ByteArray) (hl : l.length ≤ 9223372036854775807) (n : Nat) : ∀ i : Int, 0 ≤ i → (l.length : Int) - i = n → Ev (fun k => laws_eqStringS.l0 k l l i) true := by
  induction n with
  | zero =>
    intro i h0 hn
    refine ev_step ?_
    simp only [laws_eqStringS.l0]
    exact ev_neg (by omega) (ev_ret _)
  | succ n ih =>
    intro i h0 hn
    refine ev_step ?_
    simp only [laws_eqStringS.l0]
    refine ev_pos (by omega) (ev_pos h0 (ev_pos (by omega) (ev_pos (by simp) ?_)))
    rw [w64 (x := i + 1) (by omega) (by omega)]
    exact ih (i + 1) (by omega) (by omega)
theorem eqStringS_ev (l : List ByteArray) (hl : l.length ≤ 9223372036854775807) : Ev (fun k => laws_eqStringS.f k l l) true := by
  unfold laws_eqStringS.f
  exact ev_pos rfl (eqStringS_l0 l hl l.length 0 (by omega) (by omega))

theorem eqIntS_l0 (l : List Int) (hl : l.length ≤ 9223372036854775807) (n : Nat) : ∀ i : Int, 0 ≤ i → (l.length : Int) - i = n → Ev (fun k => laws_eqIntS.l0 k l l i) true := by
  induction n with
  | zero =>
    intro i h0 hn
    refine ev_step ?_
    simp only [laws_eqIntS.l0]
    exact ev_neg (by omega) (ev_ret _)
  | succ n ih =>
    intro i h0 hn
    refine ev_step ?_
    simp only [laws_eqIntS.l0]
    refine ev_pos (by omega) (ev_pos h0 (ev_pos (by omega) (ev_pos (by simp) ?_)))
    rw [w64 (x := i + 1) (by omega) (by omega)]
    exact ih (i + 1) (by omega) (by omega)
theorem eqIntS_ev (l : List Int) (hl : l.length ≤ 9223372036854775807) : Ev (fun k => laws_eqIntS.f k l l) true := by
  unfold laws_eqIntS.f
  exact ev_pos rfl (eqIntS_l0 l hl l.length 0 (by omega) (by omega))

def fitNode (x : S132) : Prop := x.f5.length ≤ 9223372036854775807
def fitEntry (_ : S125) : Prop := True
def fitMonitor (x : S114) : Prop := x.f1.length ≤ 9223372036854775807 ∧ x.f2.length ≤ 9223372036854775807 ∧ x.f3.length ≤ 9223372036854775807
def fitProcess (x : S130) : Prop := x.f1.length ≤ 9223372036854775807 ∧ x.f2.length ≤ 9223372036854775807
theorem eqNode_ev (x : S132) (h : fitNode x) : Ev (fun k => laws_eqNode.f k x.f0 x.f1 x.f2 x.f3 x.f4 x.f5 x.f0 x.f1 x.f2 x.f3 x.f4 x.f5) true := by
  unfold laws_eqNode.f
  exact ev_pos rfl (ev_pos rfl (ev_pos rfl (ev_pos rfl (ev_pos rfl (Ev.bind (eqIntS_ev _ h) (ev_pos rfl (ev_ret _)))))))
theorem eqEntry_ev (x : S125) (h : fitEntry x) : Ev (fun _ => laws_eqEntry.f x.f0 x.f1 x.f2 x.f0 x.f1 x.f2) true := by
  unfold laws_eqEntry.f
  exact ev_pos rfl (ev_pos rfl (ev_pos rfl (ev_ret _)))
theorem eqProcess_ev (x : S130) (h : fitProcess x) : Ev (fun k => laws_eqProcess.f k x.f0 x.f1 x.f2 x.f3 x.f0 x.f1 x.f2 x.f3) true := by
  unfold laws_eqProcess.f
  exact ev_pos rfl (Ev.bind (eqStringS_ev _ h.1) (ev_pos rfl (Ev.bind (eqStringS_ev _ h.2) (ev_pos rfl (ev_pos rfl (ev_ret _))))))
theorem eqNodeS_l0 (l : List S132) (hl : l.length ≤ 9223372036854775807) (hk : ∀ x ∈ l, fitNode x) (n : Nat) : ∀ i : Int, 0 ≤ i → (l.length : Int) - i = n → Ev (fun k => laws_eqNodeS.l0 k l l i) true := by
  induction n with
  | zero =>
    intro i h0 hn
    refine ev_step ?_
    simp only [laws_eqNodeS.l0]
    exact ev_neg (by omega) (ev_ret _)
  | succ n ih =>
    intro i h0 hn
    refine ev_step ?_
    simp only [laws_eqNodeS.l0]
    have hm : rdOf z132 l i ∈ l := rdOf_mem h0 (by omega)
    refine ev_pos (by omega) (ev_pos h0 (ev_pos (by omega) (Ev.bind (eqNode_ev (rdOf z132 l i) (hk _ hm)) (ev_pos rfl ?_))))
    rw [w64 (x := i + 1) (by omega) (by omega)]
    exact ih (i + 1) (by omega) (by omega)
theorem eqNodeS_ev (l : List S132) (hl : l.length ≤ 9223372036854775807) (hk : ∀ x ∈ l, fitNode x) : Ev (fun k => laws_eqNodeS.f k l l) true := by
  unfold laws_eqNodeS.f
  exact ev_pos rfl (eqNodeS_l0 l hl hk l.length 0 (by omega) (by omega))
theorem eqEntryS_l0 (l : List S125) (hl : l.length ≤ 9223372036854775807) (hk : ∀ x ∈ l, fitEntry x) (n : Nat) : ∀ i : Int, 0 ≤ i → (l.length : Int) - i = n → Ev (fun k => laws_eqEntryS.l0 k l l i) true := by
  induction n with
  | zero =>
    intro i h0 hn
    refine ev_step ?_
    simp only [laws_eqEntryS.l0]
    exact ev_neg (by omega) (ev_ret _)
  | succ n ih =>
    intro i h0 hn
    refine ev_step ?_
    simp only [laws_eqEntryS.l0]
    have hm : rdOf z125 l i ∈ l := rdOf_mem h0 (by omega)
    refine ev_pos (by omega) (ev_pos h0 (ev_pos (by omega) (Ev.bind (eqEntry_ev (rdOf z125 l i) (hk _ hm)) (ev_pos rfl ?_))))
    rw [w64 (x := i + 1) (by omega) (by omega)]
    exact ih (i + 1) (by omega) (by omega)
theorem eqEntryS_ev (l : List S125) (hl : l.length ≤ 9223372036854775807) (hk : ∀ x ∈ l, fitEntry x) : Ev (fun k => laws_eqEntryS.f k l l) true := by
  unfold laws_eqEntryS.f
  exact ev_pos rfl (eqEntryS_l0 l hl hk l.length 0 (by omega) (by omega))
theorem eqMonitor_ev (x : S114) (h : fitMonitor x) : Ev (fun k => laws_eqMonitor.f k x.f0 x.f1 x.f2 x.f3 x.f0 x.f1 x.f2 x.f3) true := by
  unfold laws_eqMonitor.f
  exact ev_pos rfl (Ev.bind (eqStringS_ev _ h.1) (ev_pos rfl (Ev.bind (eqStringS_ev _ h.2.1) (ev_pos rfl (Ev.bind (eqEntryS_ev _ h.2.2 (fun _ _ => trivial)) (ev_pos rfl (ev_ret _)))))))
theorem eqMonitorS_l0 (l : List S114) (hl : l.length ≤ 9223372036854775807) (hk : ∀ x ∈ l, fitMonitor x) (n : Nat) : ∀ i : Int, 0 ≤ i → (l.length : Int) - i = n → Ev (fun k => laws_eqMonitorS.l0 k l l i) true := by
  induction n with
  | zero =>
    intro i h0 hn
    refine ev_step ?_
    simp only [laws_eqMonitorS.l0]
    exact ev_neg (by omega) (ev_ret _)
  | succ n ih =>
    intro i h0 hn
    refine ev_step ?_
    simp only [laws_eqMonitorS.l0]
    have hm : rdOf z114 l i ∈ l := rdOf_mem h0 (by omega)
    refine ev_pos (by omega) (ev_pos h0 (ev_pos (by omega) (Ev.bind (eqMonitor_ev (rdOf z114 l i) (hk _ hm)) (ev_pos rfl ?_))))
    rw [w64 (x := i + 1) (by omega) (by omega)]
    exact ih (i + 1) (by omega) (by omega)
theorem eqMonitorS_ev (l : List S114) (hl : l.length ≤ 9223372036854775807) (hk : ∀ x ∈ l, fitMonitor x) : Ev (fun k => laws_eqMonitorS.f k l l) true := by
  unfold laws_eqMonitorS.f
  exact ev_pos rfl (eqMonitorS_l0 l hl hk l.length 0 (by omega) (by omega))
theorem eqProcessS_l0 (l : List S130) (hl : l.length ≤ 9223372036854775807) (hk : ∀ x ∈ l, fitProcess x) (n : Nat) : ∀ i : Int, 0 ≤ i → (l.length : Int) - i = n → Ev (fun k => laws_eqProcessS.l0 k l l i) true := by
  induction n with
  | zero =>
    intro i h0 hn
    refine ev_step ?_
    simp only [laws_eqProcessS.l0]
    exact ev_neg (by omega) (ev_ret _)
  | succ n ih =>
    intro i h0 hn
    refine ev_step ?_
    simp only [laws_eqProcessS.l0]
    have hm : rdOf z130 l i ∈ l := rdOf_mem h0 (by omega)
    refine ev_pos (by omega) (ev_pos h0 (ev_pos (by omega) (Ev.bind (eqProcess_ev (rdOf z130 l i) (hk _ hm)) (ev_pos rfl ?_))))
    rw [w64 (x := i + 1) (by omega) (by omega)]
    exact ih (i + 1) (by omega) (by omega)
theorem eqProcessS_ev (l : List S130) (hl : l.length ≤ 9223372036854775807) (hk : ∀ x ∈ l, fitProcess x) : Ev (fun k => laws_eqProcessS.f k l l) true := by
  unfold laws_eqProcessS.f
  exact ev_pos rfl (eqProcessS_l0 l hl hk l.length 0 (by omega) (by omega))
theorem eqProgram_ev (a : List S148) (b : List S152) (c : List S154) (h : okProg a b c) : Ev (fun k => laws_eqProgram.f k (a.map cNode) (b.map cMonitor) (c.map cProcess) (a.map cNode) (b.map cMonitor) (c.map cProcess)) true := by
  have h1 : ∀ x ∈ a.map cNode, fitNode x := by
    intro x hx
    obtain ⟨y, hy, rfl⟩ := List.mem_map.1 hx
    have := (h.1.2 y hy).2.2.2
    show y.f5.length ≤ 9223372036854775807
    omega
  have h2 : ∀ x ∈ b.map cMonitor, fitMonitor x := by
    intro x hx
    obtain ⟨y, hy, rfl⟩ := List.mem_map.1 hx
    obtain ⟨_, e1, _, e2, _, e3, _⟩ := h.2.1.2 y hy
    refine ⟨?_, ?_, ?_⟩
    · show y.f1.length ≤ 9223372036854775807
      omega
    · show y.f2.length ≤ 9223372036854775807
      omega
    · show (y.f3.map cEntry).length ≤ 9223372036854775807
      rw [List.length_map]
      omega
  have h3 : ∀ x ∈ c.map cProcess, fitProcess x := by
    intro x hx
    obtain ⟨y, hy, rfl⟩ := List.mem_map.1 hx
    obtain ⟨_, e1, _, e2, _⟩ := h.2.2.2 y hy
    refine ⟨?_, ?_⟩
    · show y.f1.length ≤ 9223372036854775807
      omega
    · show y.f2.length ≤ 9223372036854775807
      omega
  obtain ⟨⟨l1, _⟩, ⟨l2, _⟩, ⟨l3, _⟩⟩ := h
  unfold laws_eqProgram.f
  exact Ev.bind (eqNodeS_ev _ (by rw [List.length_map]; omega) h1) (ev_pos rfl (Ev.bind (eqMonitorS_ev _ (by rw [List.length_map]; omega) h2) (ev_pos rfl (Ev.bind (eqProcessS_ev _ (by rw [List.length_map]; omega) h3) (ev_pos rfl (ev_ret _))))))

def eqL {α : Type} (p : α → α → Bool) : List α → List α → Bool
  | [], [] => true
  | x :: xs, y :: ys => p x y && eqL p xs ys
  | _, _ => false
theorem eqL_len {α : Type} (p : α → α → Bool) : ∀ l m : List α, eqL p l m = true → l.length = m.length
  | [], [], _ => rfl
  | x :: xs, y :: ys, h => by
    have h : (p x y && eqL p xs ys) = true := h
    rw [Bool.and_eq_true] at h
    rw [List.length_cons, List.length_cons, eqL_len p xs ys h.2]
  | [], _ :: _, h => by cases h
  | _ :: _, [], h => by cases h
theorem eqL_ne {α : Type} (p : α → α → Bool) {l m : List α} (h : ¬ (l.length : Int) = m.length) : eqL p l m = false := by
  cases e : eqL p l m
  · rfl
  · exact absurd (congrArg (fun n : Nat => (n : Int)) (eqL_len p l m e)) h
theorem ev_andD {c : Prop} [Decidable c] {r : Bool} {g f : Nat → Option Bool} (h : c → Ev g r) (hf : Ev f false) : Ev (fun k => if c then g k else f k) (decide c && r) := by
  by_cases hc : c
  · rw [decide_eq_true hc]
    exact ev_pos hc (h hc)
  · rw [decide_eq_false hc]
    exact ev_neg hc hf
theorem ev_andB {t r : Bool} {g f : Nat → Option Bool} (h : t = true → Ev g r) (hf : Ev f false) : Ev (fun k => if t = true then g k else f k) (t && r) := by
  cases t
  · exact ev_neg (by decide) hf
  · exact ev_pos rfl (h rfl)
theorem ev_ent {A B C v : Bool} {g : Nat → Option Bool} (h : Ev g v) : Ev (fun k => if (!A || (!B || !C)) = true then some false else g k) ((A && (B && C)) && v) := by
  cases A <;> cases B <;> cases C <;> first | exact ev_pos (by decide) (ev_ret _) | exact ev_neg (by decide) h
theorem ev_loop {α : Type} (d : α) (p : α → α → Bool) (l m : List α) (r : Bool) (hlen : l.length = m.length) (F : Int → Nat → Option Bool)
    (hs : ∀ i, 0 ≤ i → i < (l.length : Int) → ∀ v, Ev (F (i + 1)) v → Ev (F i) (p (rdOf d l i) (rdOf d m i) && v)) (he : Ev (F l.length) r) (n : Nat) : ∀ i : Int, 0 ≤ i → (l.length : Int) - i = n → Ev (F i) (eqL p (l.drop i.toNat) (m.drop i.toNat) && r) := by
  induction n with
  | zero =>
    intro i h0 hn
    obtain rfl : i = l.length := by omega
    rw [List.drop_eq_nil_of_le (by omega), List.drop_eq_nil_of_le (by omega)]
    exact he
  | succ n ih =>
    intro i h0 hn
    rw [drop_rd (d := d) (l := l) h0 (by omega), drop_rd (d := d) (l := m) h0 (by omega), show ∀ x y (xs ys : List α), eqL p (x :: xs) (y :: ys) = (p x y && eqL p xs ys) from fun _ _ _ _ => rfl, Bool.and_assoc]
    exact hs i h0 (by omega) _ (ih (i + 1) (by omega) (by omega))
theorem ev_loop0 {α : Type} (d : α) (p : α → α → Bool) (l m : List α) (r : Bool) (hlen : l.length = m.length) (F : Int → Nat → Option Bool)
    (hs : ∀ i, 0 ≤ i → i < (l.length : Int) → ∀ v, Ev (F (i + 1)) v → Ev (F i) (p (rdOf d l i) (rdOf d m i) && v)) (he : Ev (F l.length) r) : Ev (F 0) (eqL p l m && r) :=
  ev_loop d p l m r hlen F hs he l.length 0 (by omega) (by omega)
def intE (a b : Int) : Bool := decide (a = b)
def txtE (a b : ByteArray) : Bool := decide (a.toList = b.toList)
def entE (x y : S125) : Bool := (x.f0.toList == y.f0.toList) && ((x.f1.toList == y.f1.toList) && (x.f2 == y.f2))
def nodE (x y : S132) : Bool := decide (x.f0 = y.f0) && (decide (x.f1 = y.f1) && (txtE x.f2 y.f2 && (txtE x.f3 y.f3 && (txtE x.f4 y.f4 && eqL intE x.f5 y.f5))))
def monE (x y : S114) : Bool := txtE x.f0 y.f0 && (eqL txtE x.f1 y.f1 && (eqL txtE x.f2 y.f2 && eqL entE x.f3 y.f3))
def proE (x y : S130) : Bool := txtE x.f0 y.f0 && (eqL txtE x.f1 y.f1 && (eqL txtE x.f2 y.f2 && decide (x.f3 = y.f3)))
def sfN (a : List S132) : Prop := a.length ≤ 1048576 ∧ ∀ x ∈ a, x.f5.length ≤ 1048576
def sfM (b : List S114) : Prop := b.length ≤ 1048576 ∧ ∀ x ∈ b, x.f1.length ≤ 1048576 ∧ x.f2.length ≤ 1048576 ∧ x.f3.length ≤ 1048576
def sfP (c : List S130) : Prop := c.length ≤ 1048576 ∧ ∀ x ∈ c, x.f1.length ≤ 1048576 ∧ x.f2.length ≤ 1048576
theorem spec_Ints_ev (l m : List Int) (hl : l.length ≤ 1048576) : Ev (fun k => spec_l06Ints.f k l m) (eqL intE l m) := by
  unfold spec_l06Ints.f
  refine ev_ite (fun c => ?_) (fun c => ?_)
  · rw [← Bool.and_true (eqL intE l m)]
    refine ev_loop0 0 intE l m true (by omega) (fun i k => spec_l06Ints.l0 k l m i) (fun i h0 h1 v hv => ev_step ?_) (ev_step ?_)
    · simp only [spec_l06Ints.l0]
      rw [w64 (x := i + 1) (by omega) (by omega)]
      exact ev_pos h1 (ev_pos h0 (ev_pos (by omega) (ev_andD (fun _ => hv) (ev_ret _))))
    · simp only [spec_l06Ints.l0]
      exact ev_neg (by omega) (ev_ret _)
  · rw [eqL_ne intE c]
    exact ev_ret _
theorem spec_Texts_ev (l m : List ByteArray) (hl : l.length ≤ 1048576) : Ev (fun k => spec_l06Texts.f k l m) (eqL txtE l m) := by
  unfold spec_l06Texts.f
  refine ev_ite (fun c => ?_) (fun c => ?_)
  · rw [← Bool.and_true (eqL txtE l m)]
    refine ev_loop0 ByteArray.empty txtE l m true (by omega) (fun i k => spec_l06Texts.l0 k l m i) (fun i h0 h1 v hv => ev_step ?_) (ev_step ?_)
    · simp only [spec_l06Texts.l0]
      rw [w64 (x := i + 1) (by omega) (by omega)]
      exact ev_pos h1 (ev_pos h0 (ev_pos (by omega) (ev_andD (fun _ => hv) (ev_ret _))))
    · simp only [spec_l06Texts.l0]
      exact ev_neg (by omega) (ev_ret _)
  · rw [eqL_ne txtE c]
    exact ev_ret _
theorem eq_Ints_ev (l m : List Int) (hl : l.length ≤ 1048576) : Ev (fun k => slices_Equal_int_int.f k l m) (eqL intE l m) := by
  unfold slices_Equal_int_int.f
  refine ev_ite (fun c => ?_) (fun c => ?_)
  · rw [← Bool.and_true (eqL intE l m)]
    refine ev_loop0 0 intE l m true (by omega) (fun i k => slices_Equal_int_int.l0 k l m (l.length : Int) i) (fun i h0 h1 v hv => ev_step ?_) (ev_step ?_)
    · simp only [slices_Equal_int_int.l0]
      rw [w64 (x := i + 1) (by omega) (by omega)]
      exact ev_pos h1 (ev_pos h0 (ev_pos h1 (ev_pos (by omega) (ev_andD (fun _ => hv) (ev_ret _)))))
    · simp only [slices_Equal_int_int.l0]
      exact ev_neg (by omega) (ev_ret _)
  · rw [eqL_ne intE c]
    exact ev_ret _
theorem eq_Texts_ev (l m : List ByteArray) (hl : l.length ≤ 1048576) : Ev (fun k => slices_Equal_string_string.f k l m) (eqL txtE l m) := by
  unfold slices_Equal_string_string.f
  refine ev_ite (fun c => ?_) (fun c => ?_)
  · rw [← Bool.and_true (eqL txtE l m)]
    refine ev_loop0 ByteArray.empty txtE l m true (by omega) (fun i k => slices_Equal_string_string.l0 k l m (l.length : Int) i) (fun i h0 h1 v hv => ev_step ?_) (ev_step ?_)
    · simp only [slices_Equal_string_string.l0]
      rw [w64 (x := i + 1) (by omega) (by omega)]
      exact ev_pos h1 (ev_pos h0 (ev_pos h1 (ev_pos (by omega) (ev_andD (fun _ => hv) (ev_ret _)))))
    · simp only [slices_Equal_string_string.l0]
      exact ev_neg (by omega) (ev_ret _)
  · rw [eqL_ne txtE c]
    exact ev_ret _
theorem eq_Ents_ev (l m : List S125) (hl : l.length ≤ 1048576) : Ev (fun k => impl_Entry.f k l m) (eqL entE l m) := by
  have E : ∀ (q : List S125) i, rd_T125 q i = rdOf z125 q i := fun _ _ => rfl
  unfold impl_Entry.f
  refine ev_ite (fun c => ?_) (fun c => ?_)
  · rw [← Bool.and_true (eqL entE l m)]
    refine ev_loop0 z125 entE l m true (by omega) (fun i k => impl_Entry.l0 k l m (l.length : Int) i) (fun i h0 h1 v hv => ev_step ?_) (ev_step ?_)
    · simp only [impl_Entry.l0, E]
      rw [w64 (x := i + 1) (by omega) (by omega)]
      exact ev_pos h1 (ev_pos h0 (ev_pos h1 (ev_pos (by omega) (ev_ent hv))))
    · simp only [impl_Entry.l0]
      exact ev_neg (by omega) (ev_ret _)
  · rw [eqL_ne entE c]
    exact ev_ret _
theorem sameNode_ev (x y : S132) (h : x.f5.length ≤ 1048576) : Ev (fun k => impl_sameNode.f k x.f0 x.f1 x.f2 x.f3 x.f4 x.f5 y.f0 y.f1 y.f2 y.f3 y.f4 y.f5) (nodE x y) := by
  unfold impl_sameNode.f
  exact ev_andD (fun _ => ev_andD (fun _ => ev_andD (fun _ => ev_andD (fun _ => ev_andD (fun _ => Ev.bind (eq_Ints_ev _ _ h) (ev_ret _)) (ev_ret _)) (ev_ret _)) (ev_ret _)) (ev_ret _)) (ev_ret _)
theorem sameMonitor_ev (x y : S114) (h : x.f1.length ≤ 1048576 ∧ x.f2.length ≤ 1048576 ∧ x.f3.length ≤ 1048576) : Ev (fun k => impl_sameMonitor.f k x.f0 x.f1 x.f2 x.f3 y.f0 y.f1 y.f2 y.f3) (monE x y) := by
  unfold impl_sameMonitor.f
  exact ev_andD (fun _ => Ev.bind (eq_Texts_ev _ _ h.1) (ev_andB (fun _ => Ev.bind (eq_Texts_ev _ _ h.2.1) (ev_andB (fun _ => Ev.bind (eq_Ents_ev _ _ h.2.2) (ev_ret _)) (ev_ret _))) (ev_ret _))) (ev_ret _)
theorem sameProcess_ev (x y : S130) (h : x.f1.length ≤ 1048576 ∧ x.f2.length ≤ 1048576) : Ev (fun k => impl_sameProcess.f k x.f0 x.f1 x.f2 x.f3 y.f0 y.f1 y.f2 y.f3) (proE x y) := by
  unfold impl_sameProcess.f
  exact ev_andD (fun _ => Ev.bind (eq_Texts_ev _ _ h.1) (ev_andB (fun _ => Ev.bind (eq_Texts_ev _ _ h.2) (ev_andB (fun _ => ev_eq (by rw [Bool.eq_iff_iff, beq_iff_eq, decide_eq_true_iff]) (ev_ret _)) (ev_ret _))) (ev_ret _))) (ev_ret _)
theorem eq_Nodes_ev (l m : List S132) (hl : sfN l) : Ev (fun k => impl_Node_impl_sameNode.f k l m) (eqL nodE l m) := by
  have E : ∀ (q : List S132) i, rd_T132 q i = rdOf z132 q i := fun _ _ => rfl
  have hl1 := hl.1
  unfold impl_Node_impl_sameNode.f
  refine ev_ite (fun c => ?_) (fun c => ?_)
  · rw [← Bool.and_true (eqL nodE l m)]
    refine ev_loop0 z132 nodE l m true (by omega) (fun i k => impl_Node_impl_sameNode.l0 k m l (l.length : Int) i) (fun i h0 h1 v hv => ev_step ?_) (ev_step ?_)
    · simp only [impl_Node_impl_sameNode.l0, E]
      rw [w64 (x := i + 1) (by omega) (by omega)]
      exact ev_pos h1 (ev_pos h0 (ev_pos h1 (ev_pos (by omega) (Ev.bind (sameNode_ev _ _ (hl.2 _ (rdOf_mem h0 h1))) (ev_andB (fun _ => hv) (ev_ret _))))))
    · simp only [impl_Node_impl_sameNode.l0]
      exact ev_neg (by omega) (ev_ret _)
  · rw [eqL_ne nodE c]
    exact ev_ret _
theorem eq_Monitors_ev (l m : List S114) (hl : sfM l) : Ev (fun k => impl_Monitor_impl_sameMonitor.f k l m) (eqL monE l m) := by
  have E : ∀ (q : List S114) i, rd_T114 q i = rdOf z114 q i := fun _ _ => rfl
  have hl1 := hl.1
  unfold impl_Monitor_impl_sameMonitor.f
  refine ev_ite (fun c => ?_) (fun c => ?_)
  · rw [← Bool.and_true (eqL monE l m)]
    refine ev_loop0 z114 monE l m true (by omega) (fun i k => impl_Monitor_impl_sameMonitor.l0 k m l (l.length : Int) i) (fun i h0 h1 v hv => ev_step ?_) (ev_step ?_)
    · simp only [impl_Monitor_impl_sameMonitor.l0, E]
      rw [w64 (x := i + 1) (by omega) (by omega)]
      exact ev_pos h1 (ev_pos h0 (ev_pos h1 (ev_pos (by omega) (Ev.bind (sameMonitor_ev _ _ (hl.2 _ (rdOf_mem h0 h1))) (ev_andB (fun _ => hv) (ev_ret _))))))
    · simp only [impl_Monitor_impl_sameMonitor.l0]
      exact ev_neg (by omega) (ev_ret _)
  · rw [eqL_ne monE c]
    exact ev_ret _
theorem eq_Processes_ev (l m : List S130) (hl : sfP l) : Ev (fun k => impl_Process_impl_sameProcess.f k l m) (eqL proE l m) := by
  have E : ∀ (q : List S130) i, rd_T130 q i = rdOf z130 q i := fun _ _ => rfl
  have hl1 := hl.1
  unfold impl_Process_impl_sameProcess.f
  refine ev_ite (fun c => ?_) (fun c => ?_)
  · rw [← Bool.and_true (eqL proE l m)]
    refine ev_loop0 z130 proE l m true (by omega) (fun i k => impl_Process_impl_sameProcess.l0 k m l (l.length : Int) i) (fun i h0 h1 v hv => ev_step ?_) (ev_step ?_)
    · simp only [impl_Process_impl_sameProcess.l0, E]
      rw [w64 (x := i + 1) (by omega) (by omega)]
      exact ev_pos h1 (ev_pos h0 (ev_pos h1 (ev_pos (by omega) (Ev.bind (sameProcess_ev _ _ (hl.2 _ (rdOf_mem h0 h1))) (ev_andB (fun _ => hv) (ev_ret _))))))
    · simp only [impl_Process_impl_sameProcess.l0]
      exact ev_neg (by omega) (ev_ret _)
  · rw [eqL_ne proE c]
    exact ev_ret _
def sameV (a a' : List S132) (b b' : List S114) (c c' : List S130) : Bool := eqL nodE a a' && (eqL monE b b' && eqL proE c c')
theorem impl_Same_ev (a a' : List S132) (b b' : List S114) (c c' : List S130) (ha : sfN a) (hb : sfM b) (hc : sfP c) : Ev (fun k => impl_SameProgram.f k a b c a' b' c') (sameV a a' b b' c c') := by
  unfold impl_SameProgram.f
  exact Ev.bind (eq_Nodes_ev a a' ha) (ev_andB (fun _ => Ev.bind (eq_Monitors_ev b b' hb) (ev_andB (fun _ => Ev.bind (eq_Processes_ev c c' hc) (ev_ret _)) (ev_ret _))) (ev_ret _))
theorem spec_Same_l3 (a a' : List S132) (b b' : List S114) (c c' : List S130) (hc : sfP c) (hlen : c.length = c'.length) : Ev (fun k => spec_SameProgram.l3 k 0 a b c a' b' c') (eqL proE c c') := by
  have E : ∀ (q : List S130) i, rd_T130 q i = rdOf z130 q i := fun _ _ => rfl
  have hc1 := hc.1
  have J : ∀ i, Ev (fun k => spec_SameProgram.j7 k i true a b c a' b' c') false := fun i => ev_step (by simp only [spec_SameProgram.j7]; exact ev_pos trivial (ev_ret _))
  rw [← Bool.and_true (eqL proE c c')]
  refine ev_loop0 z130 proE c c' true hlen (fun i k => spec_SameProgram.l3 k i a b c a' b' c') (fun i h0 h1 v hv => ev_step ?_) (ev_step ?_)
  · simp only [spec_SameProgram.l3, E]
    have hx := hc.2 _ (rdOf_mem (d := z130) h0 h1)
    unfold proE
    rw [Bool.and_assoc, Bool.and_assoc, Bool.and_assoc]
    refine ev_pos h1 (ev_pos h0 (ev_pos (by omega) (ev_andD (fun _ => Ev.bind (spec_Texts_ev _ _ hx.1) (ev_andB (fun _ => Ev.bind (spec_Texts_ev _ _ hx.2) (ev_andB (fun _ => ev_step ?_) (J _))) (J _))) (J _))))
    simp only [spec_SameProgram.j7]
    rw [w64 (x := i + 1) (by omega) (by omega)]
    by_cases g : (rdOf z130 c i).f3 = (rdOf z130 c' i).f3
    · rw [decide_eq_true g, g, bne_self_eq_false]
      exact ev_neg (by decide) hv
    · rw [decide_eq_false g, bne_iff_ne.2 g]
      exact ev_pos rfl (ev_ret _)
  · simp only [spec_SameProgram.l3]
    exact ev_neg (by omega) (ev_ret _)
theorem spec_Same_l1 (a a' : List S132) (b b' : List S114) (c c' : List S130) (r : Bool) (hb : sfM b) (hlen : b.length = b'.length) (hr : Ev (fun k => spec_SameProgram.l3 k 0 a b c a' b' c') r) : Ev (fun k => spec_SameProgram.l1 k 0 a b c a' b' c') (eqL monE b b' && r) := by
  have E : ∀ (q : List S114) i, rd_T114 q i = rdOf z114 q i := fun _ _ => rfl
  have E2 : ∀ (q : List S125) i, rd_T125 q i = rdOf z125 q i := fun _ _ => rfl
  have hb1 := hb.1
  have J : ∀ i p0 p1 p2 p3 q0 q1 q2 q3, Ev (fun k => spec_SameProgram.j4 k i true a b c a' b' c' p0 p1 p2 p3 q0 q1 q2 q3) false := fun i p0 p1 p2 p3 q0 q1 q2 q3 => ev_step (by simp only [spec_SameProgram.j4]; exact ev_pos trivial (ev_ret _))
  refine ev_loop0 z114 monE b b' r hlen (fun i k => spec_SameProgram.l1 k i a b c a' b' c') (fun i h0 h1 v hv => ev_step ?_) (ev_step ?_)
  · simp only [spec_SameProgram.l1, E]
    have hx := hb.2 _ (rdOf_mem (d := z114) h0 h1)
    unfold monE
    rw [Bool.and_assoc, Bool.and_assoc, Bool.and_assoc]
    refine ev_pos h1 (ev_pos h0 (ev_pos (by omega) (ev_andD (fun _ => Ev.bind (spec_Texts_ev _ _ hx.1) (ev_andB (fun _ => Ev.bind (spec_Texts_ev _ _ hx.2.1) (ev_andB (fun _ => ev_step ?_) (J ..))) (J ..))) (J ..))))
    simp only [spec_SameProgram.j4]
    generalize (rdOf z114 b i).f3 = es at hx
    generalize (rdOf z114 b' i).f3 = fs
    by_cases g : (es.length : Int) = (fs.length : Int)
    · rw [g, bne_self_eq_false]
      refine ev_neg (by decide) ?_
      refine ev_loop0 z125 entE es fs v (by omega) (fun j k => spec_SameProgram.l2 k i j a b c a' b' c' _ _ _ es _ _ _ fs) (fun j j0 j1 u hu => ev_step ?_) (ev_step ?_)
      · simp only [spec_SameProgram.l2, E2]
        have := hx.2.2
        rw [w64 (x := j + 1) (by omega) (by omega)]
        exact ev_pos j1 (ev_pos j0 (ev_pos (by omega) (ev_ent hu)))
      · simp only [spec_SameProgram.l2]
        rw [w64 (x := i + 1) (by omega) (by omega)]
        exact ev_neg (by omega) hv
    · rw [eqL_ne entE g, bne_iff_ne.2 g]
      exact ev_pos rfl (ev_ret _)
  · simp only [spec_SameProgram.l1]
    exact ev_neg (by omega) hr
theorem spec_Same_l0 (a a' : List S132) (b b' : List S114) (c c' : List S130) (r : Bool) (ha : sfN a) (hlen : a.length = a'.length) (hr : Ev (fun k => spec_SameProgram.l1 k 0 a b c a' b' c') r) : Ev (fun k => spec_SameProgram.l0 k 0 a b c a' b' c') (eqL nodE a a' && r) := by
  have E : ∀ (q : List S132) i, rd_T132 q i = rdOf z132 q i := fun _ _ => rfl
  have ha1 := ha.1
  have J : ∀ i, Ev (fun k => spec_SameProgram.j2 k i true a b c a' b' c') false := fun i => ev_step (by simp only [spec_SameProgram.j2]; exact ev_pos trivial (ev_ret _))
  refine ev_loop0 z132 nodE a a' r hlen (fun i k => spec_SameProgram.l0 k i a b c a' b' c') (fun i h0 h1 v hv => ev_step ?_) (ev_step ?_)
  · simp only [spec_SameProgram.l0, E]
    have hx := ha.2 _ (rdOf_mem (d := z132) h0 h1)
    unfold nodE
    rw [Bool.and_assoc, Bool.and_assoc, Bool.and_assoc, Bool.and_assoc, Bool.and_assoc]
    refine ev_pos h1 (ev_pos h0 (ev_pos (by omega) (ev_andD (fun _ => ev_andD (fun _ => ev_andD (fun _ => ev_andD (fun _ => ev_andD (fun _ => Ev.bind (spec_Ints_ev _ _ hx) (ev_step ?_)) (J _)) (J _)) (J _)) (J _)) (J _))))
    simp only [spec_SameProgram.j2]
    rw [w64 (x := i + 1) (by omega) (by omega)]
    generalize eqL intE (rdOf z132 a i).f5 (rdOf z132 a' i).f5 = t
    cases t
    · exact ev_pos rfl (ev_ret _)
    · exact ev_neg (by decide) hv
  · simp only [spec_SameProgram.l0]
    exact ev_neg (by omega) hr
theorem spec_Same_ev (a a' : List S132) (b b' : List S114) (c c' : List S130) (ha : sfN a) (hb : sfM b) (hc : sfP c) : Ev (fun k => spec_SameProgram.f k a b c a' b' c') (sameV a a' b b' c c') := by
  have J : Ev (fun k => spec_SameProgram.j0 k true a b c a' b' c') false := ev_step (by simp only [spec_SameProgram.j0]; exact ev_pos trivial (ev_ret _))
  unfold spec_SameProgram.f sameV
  refine ev_ite (fun g1 => ev_ite (fun g2 => ev_step ?_) (fun g2 => ?_)) (fun g1 => ?_)
  · simp only [spec_SameProgram.j0]
    by_cases g3 : (c.length : Int) = (c'.length : Int)
    · rw [g3, bne_self_eq_false]
      exact ev_neg (by decide) (spec_Same_l0 a a' b b' c c' _ ha (by omega) (spec_Same_l1 a a' b b' c c' _ hb (by omega) (spec_Same_l3 a a' b b' c c' hc (by omega))))
    · rw [eqL_ne proE g3, Bool.and_false, Bool.and_false, bne_iff_ne.2 g3]
      exact ev_pos rfl (ev_ret _)
  · rw [eqL_ne monE g2, Bool.false_and, Bool.and_false]
    exact J
  · rw [eqL_ne nodE g1, Bool.false_and]
    exact J
theorem FnExactSameProgram : Go.Proofs.Ytegeahiflkjhmaa.OpnFnExactSameProgram.Pure := by
  intro pa pb pc qa qb qc ga gb gc ha hb hc
  refine Ev.rounds ?_
  unfold laws_FnExactSameProgram.f
  obtain ⟨r, hr, hrle, hrx⟩ := szProgram_ev pa pb pc ga gb gc 1048576 (by omega) (by omega)
  refine Ev.bind hr (ev_ite (fun _ => ev_ret _) (fun g => ?_))
  obtain ⟨r2, hr2, hrle2, hrx2⟩ := szProgram_ev qa qb qc ha hb hc r (by omega) (by omega)
  refine Ev.bind hr2 (ev_ite (fun _ => ev_ret _) (fun g2 => ?_))
  have hp := hrx (by omega)
  have hq := hrx2 (by omega)
  have sN : sfN (pa.map cNode) := by
    refine ⟨by rw [List.length_map]; exact hp.1.1, fun x hx => ?_⟩
    obtain ⟨y, hy, rfl⟩ := List.mem_map.1 hx
    exact (hp.1.2 y hy).2.2.2
  have sM : sfM (pb.map cMonitor) := by
    refine ⟨by rw [List.length_map]; exact hp.2.1.1, fun x hx => ?_⟩
    obtain ⟨y, hy, rfl⟩ := List.mem_map.1 hx
    obtain ⟨k0, k1, k2, k3, k4, k5, k6⟩ := hp.2.1.2 y hy
    refine ⟨k1, k3, ?_⟩
    show (y.f3.map cEntry).length ≤ 1048576
    rw [List.length_map]
    exact k5
  have sP : sfP (pc.map cProcess) := by
    refine ⟨by rw [List.length_map]; exact hp.2.2.1, fun x hx => ?_⟩
    obtain ⟨y, hy, rfl⟩ := List.mem_map.1 hx
    obtain ⟨k0, k1, k2, k3, k4⟩ := hp.2.2.2 y hy
    exact ⟨k1, k3⟩
  have tp := toProgram_ev pa pb pc hp
  have ep := eqProgram_ev pa pb pc hp
  have tq := toProgram_ev qa qb qc hq
  have eq := eqProgram_ev qa qb qc hq
  generalize pa.map cNode = a at tp ep sN
  generalize pb.map cMonitor = b at tp ep sM
  generalize pc.map cProcess = c at tp ep sP
  generalize qa.map cNode = a' at tq eq
  generalize qb.map cMonitor = b' at tq eq
  generalize qc.map cProcess = c' at tq eq
  exact Ev.bind tp (Ev.bind tq (Ev.bind (spec_Same_ev a a' b b' c c' sN sM sP) (Ev.bind tp (Ev.bind tq (Ev.bind (impl_Same_ev a a' b b' c c' sN sM sP) (ev_neg (by simp) (Ev.bind tp (Ev.bind ep (ev_pos rfl (Ev.bind tq (Ev.bind eq (ev_pos rfl (ev_ret _)))))))))))))

end Go.Proofs.Ytegeahiflkjhmaa.Pure
