/- The program's Shared answers as the reference's at every program and number, and leaves the program as it was. No condition beyond the law's own bound. -/
import Derived.Test.YtmbkcbgbienjoaaOpnFnExactShared
set_option linter.unusedVariables false
set_option linter.unusedSimpArgs false
namespace Go.Proofs.Ytmbkcbgbienjoaa.Pure
open Go.RowKit Go.Proofs.Ytmbkcbgbienjoaa.PFnExactShared Go.Proofs.YtmbkcbgbienjoaaW.PrintWords Go.Proofs.YtmbkcbgbienjoaaW.PrintLast Go.Proofs.YtmbkcbgbienjoaaW.PrintMore Go.Proofs.Ytmbkcbgbienjoaa.Opn Go.Proofs.Ytmbkcbgbienjoaa.OpnFnExactShared

theorem w64 {x : Int} (h0 : -9223372036854775808 ≤ x) (h1 : x ≤ 9223372036854775807) : wrap64 x = x := by
  unfold wrap64
  omega
theorem wf_i64 {x : Int} (h : (Lit.int .i64 x).wf = true) : -9223372036854775808 ≤ x ∧ x ≤ 9223372036854775807 := by
  simp [Lit.wf, IntKind.min, IntKind.max, IntKind.signed, IntKind.bits] at h
  omega

instance lawBA : LawfulBEq ByteArray where
  eq_of_beq {a b} h := by
    cases a
    cases b
    congr 1
    exact eq_of_beq (α := Array UInt8) h
  rfl {a} := by
    cases a
    exact BEq.rfl (α := Array UInt8)

/-! Rounds -/
theorem ev_step {α : Type} {g : Nat → Option α} {r : α} (h : Ev (fun k => g (k + 1)) r) : Ev g r := Ev.step (fun _ => rfl) h
theorem ev_ret {α : Type} (r : α) : Ev (fun _ => some r) r := ⟨0, fun _ _ => rfl⟩
theorem ev_pos {α : Type} {c : Prop} [Decidable c] {g f : Nat → Option α} {r : α} (h : c) (k : Ev g r) : Ev (fun n => if c then g n else f n) r :=
  Ev.congr (fun _ => if_pos h) k
theorem ev_neg {α : Type} {c : Prop} [Decidable c] {g f : Nat → Option α} {r : α} (h : ¬ c) (k : Ev f r) : Ev (fun n => if c then g n else f n) r :=
  Ev.congr (fun _ => if_neg h) k
theorem ev_bindc {α β : Type} {x : Option α} {f : Nat → α → Option β} {a : α} {r : β} (h : x = some a) (k : Ev (fun n => f n a) r) : Ev (fun n => x.bind (f n)) r := by
  subst h
  exact k
theorem ev_rpos {α : Type} {c : Prop} [Decidable c] {g : Nat → Option α} {a b : α} (h : c) (k : Ev g a) : Ev g (if c then a else b) := by
  rw [if_pos h]
  exact k
theorem ev_rneg {α : Type} {c : Prop} [Decidable c] {g : Nat → Option α} {a b : α} (h : ¬ c) (k : Ev g b) : Ev g (if c then a else b) := by
  rw [if_neg h]
  exact k
theorem ev_eq {α : Type} {g : Nat → Option α} {r r' : α} (h : r = r') (k : Ev g r) : Ev g r' := h ▸ k

/-! Lists and texts as lists of numbers -/
def bs (s : ByteArray) : List Int := s.data.toList.map fun c => (c.toNat : Int)
theorem bs_length (s : ByteArray) : (bs s).length = s.size := by
  unfold bs
  rw [List.length_map, Array.length_toList]
  rfl
theorem bs_range {s : ByteArray} {x : Int} (h : x ∈ bs s) : 0 ≤ x ∧ x < 256 := by
  unfold bs at h
  obtain ⟨c, _, rfl⟩ := List.mem_map.1 h
  have := c.toNat_lt
  omega
theorem bs_inj {a b : ByteArray} (h : bs a = bs b) : a = b := by
  have h2 : a.data.toList = b.data.toList := by
    have h3 := congrArg (List.map fun n : Int => UInt8.ofNat n.toNat) h
    unfold bs at h3
    rw [List.map_map, List.map_map] at h3
    have e : ∀ l : List UInt8, l.map ((fun n : Int => UInt8.ofNat n.toNat) ∘ fun c => (c.toNat : Int)) = l := by
      intro l
      induction l with
      | nil => rfl
      | cons c l ih =>
        rw [List.map_cons, ih]
        simp
    rwa [e, e] at h3
  cases a
  cases b
  congr 1
  exact Array.toList_inj.1 h2
theorem toList_eq_iff {a b : ByteArray} : a.toList = b.toList ↔ a = b := by
  constructor
  · intro h
    rw [ByteArray.toList_eq, ByteArray.toList_eq] at h
    cases a
    cases b
    congr 1
    exact Array.toList_inj.1 h
  · rintro rfl
    rfl
theorem drop_rd {α : Type} {d : α} {l : List α} {i : Int} (h0 : 0 ≤ i) (h1 : i < l.length) : l.drop i.toNat = rdOf d l i :: l.drop (i + 1).toNat := by
  have h2 : i.toNat < l.length := by omega
  rw [List.drop_eq_getElem_cons h2]
  unfold rdOf
  rw [List.getD_eq_getElem?_getD, List.getElem?_eq_getElem h2, show (i + 1).toNat = i.toNat + 1 by omega]
  rfl
theorem drop_end {α : Type} {l : List α} {i : Int} (h0 : 0 ≤ i) (h1 : ¬ i < l.length) : l.drop i.toNat = [] := List.drop_eq_nil_of_le (by omega)
theorem bs_rd {s : ByteArray} {i : Int} (h0 : 0 ≤ i) (h1 : i < s.size) : rdOf 0 (bs s) i = bt s i := by
  have h2 : i.toNat < s.size := by omega
  have h3 : i.toNat < s.data.toList.length := by
    rw [Array.length_toList]
    exact h2
  unfold rdOf bs bt
  rw [List.getD_eq_getElem?_getD, List.getElem?_map, List.getElem?_eq_getElem h3, dif_pos h2]
  rfl
theorem bs_drop {s : ByteArray} {i : Int} (h0 : 0 ≤ i) (h1 : i < s.size) : (bs s).drop i.toNat = bt s i :: (bs s).drop (i + 1).toNat := by
  rw [drop_rd (d := 0) h0 (by rw [bs_length]; exact h1), bs_rd h0 h1]
theorem bs_end {s : ByteArray} {i : Int} (h0 : 0 ≤ i) (h1 : ¬ i < s.size) : (bs s).drop i.toNat = [] := drop_end h0 (by rw [bs_length]; exact h1)
theorem strOf_bs (s : ByteArray) : strOfNums (bs s) = s := by
  have e : (bs s).map (fun n => UInt8.ofNat n.toNat) = s.data.toList := by
    unfold bs
    rw [List.map_map]
    conv => rhs; rw [← List.map_id s.data.toList]
    exact List.map_congr_left fun c _ => by simp
  unfold strOfNums
  rw [e]
theorem bs_strOf {l : List Int} (h : ∀ x ∈ l, 0 ≤ x ∧ x < 256) : bs (strOfNums l) = l := by
  unfold bs strOfNums
  rw [List.map_map]
  conv => rhs; rw [← List.map_id l]
  refine List.map_congr_left fun x hx => ?_
  obtain ⟨h0, h1⟩ := h x hx
  simp only [Function.comp_apply, UInt8.toNat_ofNat', id_eq]
  omega
theorem bs_append (a b : ByteArray) : bs (a ++ b) = bs a ++ bs b := by simp [bs]
theorem strOf_append (a b : List Int) : strOfNums (a ++ b) = strOfNums a ++ strOfNums b := by
  cases h : strOfNums a ++ strOfNums b
  rename_i d
  have := congrArg ByteArray.data h
  simp only [ByteArray.data_append] at this
  unfold strOfNums at this ⊢
  simp only [← this]
  simp
theorem ev_id {α : Type} {g : Nat → Option α} {r : α} (h : ∀ k, g k = some r) : Ev g r := ⟨0, fun k _ => h k⟩

theorem set_take {α : Type} (l : List α) (i : Nat) (x : α) (h : i < l.length) : (l.set i x).take (i + 1) = l.take i ++ [x] := by
  apply List.ext_getElem?
  intro j
  rcases Nat.lt_trichotomy j i with hj | hj | hj
  · rw [List.getElem?_take_of_lt (by omega), List.getElem?_set_ne (by omega), List.getElem?_append_left (by simp; omega), List.getElem?_take_of_lt hj]
  · subst hj
    rw [List.getElem?_take_of_lt (by omega), List.getElem?_set_self h, List.getElem?_append_right (by simp; omega)]
    simp [Nat.min_eq_left (Nat.le_of_lt h)]
  · rw [List.getElem?_eq_none (by simp; omega), List.getElem?_eq_none (by simp; omega)]
theorem take_rd {α : Type} (d : α) {l : List α} {i : Int} (h0 : 0 ≤ i) (h1 : i < l.length) : l.take (i + 1).toNat = l.take i.toNat ++ [rdOf d l i] := by
  have h2 : i.toNat < l.length := by omega
  rw [show (i + 1).toNat = i.toNat + 1 by omega, List.take_succ_eq_append_getElem h2]
  unfold rdOf
  rw [List.getD_eq_getElem?_getD, List.getElem?_eq_getElem h2]
  rfl
theorem rd_rdOf (l : List Int) (i : Int) : rd l i = rdOf 0 l i := rfl
theorem rdOf_mem {α : Type} {d : α} {l : List α} {i : Int} (h0 : 0 ≤ i) (h1 : i < l.length) : rdOf d l i ∈ l := by
  unfold rdOf
  rw [List.getD_eq_getElem?_getD, List.getElem?_eq_getElem (show i.toNat < l.length by omega)]
  exact List.getElem_mem _
/-- A copy made element by element, one round. -/
theorem copy_step {α : Type} (d : α) {src acc : List α} {i : Int} (h0 : 0 ≤ i) (h1 : i < src.length) (hl : acc.length = src.length) (ht : acc.take i.toNat = src.take i.toNat) :
    (acc.set i.toNat (rdOf d src i)).length = src.length ∧ (acc.set i.toNat (rdOf d src i)).take (i + 1).toNat = src.take (i + 1).toNat := by
  refine ⟨by simpa using hl, ?_⟩
  rw [take_rd d h0 h1, ← ht, show (i + 1).toNat = i.toNat + 1 by omega, set_take _ _ _ (by omega)]
theorem copy_end {α : Type} {src acc : List α} {i : Int} (h0 : 0 ≤ i) (h1 : ¬ i < src.length) (hl : acc.length = src.length) (ht : acc.take i.toNat = src.take i.toNat) : acc = src := by
  rw [List.take_of_length_le (by omega), List.take_of_length_le (by omega)] at ht
  exact ht

theorem szStringS_l0 (l : List ByteArray) (hl : l.length ≤ 1048576) (hs : ∀ x ∈ l, x.size ≤ 9223372036854775807) (n : Nat) : ∀ (left i : Int), 0 ≤ left → left ≤ 1048576 → 0 ≤ i → (l.length : Int) - i = n →
    ∃ r, Ev (fun k => laws_szStringS.l0 k l left i) r ∧ r ≤ left ∧ (0 ≤ r → ∀ x ∈ l.drop i.toNat, (x.size : Int) ≤ left) := by
  induction n with
  | zero =>
    intro left i h0 h1 hi hn
    refine ⟨left, ev_step ?_, Int.le_refl _, fun _ x hx => ?_⟩
    · simp only [laws_szStringS.l0]
      exact ev_neg (by omega) (ev_ret _)
    · rw [drop_end hi (by omega)] at hx
      cases hx
  | succ n ih =>
    intro left i h0 h1 hi hn
    have hz := hs _ (rdOf_mem (d := ByteArray.empty) (l := l) hi (by omega))
    rw [drop_rd (d := ByteArray.empty) (l := l) hi (by omega)]
    have step : ∀ r, Ev (fun k => if (wrap64 (left - ((rdOf ByteArray.empty l i).size : Int))) < 0 then (some (-1)) else (laws_szStringS.l0 k l (wrap64 (left - ((rdOf ByteArray.empty l i).size : Int))) (wrap64 (i + 1)))) r → Ev (fun k => laws_szStringS.l0 k l left i) r := by
      intro r h
      refine ev_step ?_
      simp only [laws_szStringS.l0]
      exact ev_pos (by omega) (ev_pos hi h)
    generalize rdOf ByteArray.empty l i = y at hz step ⊢
    rw [w64 (x := left - (y.size : Int)) (by omega) (by omega), w64 (x := i + 1) (by omega) (by omega)] at step
    by_cases c : left - (y.size : Int) < 0
    · exact ⟨-1, step _ (ev_pos c (ev_ret _)), by omega, fun h => by omega⟩
    · obtain ⟨r, hr, hle, hx⟩ := ih (left - y.size) (i + 1) (by omega) (by omega) (by omega) (by omega)
      refine ⟨r, step _ (ev_neg c hr), by omega, fun h x hm => ?_⟩
      rcases List.mem_cons.1 hm with rfl | hm
      · omega
      · have := hx h x hm
        omega
theorem szStringS_ev (l : List ByteArray) (hl : l.length ≤ 9223372036854775807) (hs : ∀ x ∈ l, x.size ≤ 9223372036854775807) (left : Int) (h0 : 0 ≤ left) (h1 : left ≤ 1048576) :
    ∃ r, Ev (fun k => laws_szStringS.f k l left) r ∧ r ≤ left ∧ (0 ≤ r → (l.length : Int) ≤ left ∧ ∀ x ∈ l, (x.size : Int) ≤ left) := by
  unfold laws_szStringS.f
  rw [w64 (x := left - (l.length : Int)) (by omega) (by omega)]
  by_cases c : left - (l.length : Int) < 0
  · exact ⟨-1, ev_pos c (ev_ret _), by omega, fun h => by omega⟩
  · obtain ⟨r, hr, hle, hx⟩ := szStringS_l0 l (by omega) hs l.length (left - l.length) 0 (by omega) (by omega) (by omega) (by omega)
    refine ⟨r, ev_neg c hr, by omega, fun h => ⟨by omega, fun x hm => ?_⟩⟩
    have := hx h x (by simpa using hm)
    omega

theorem szIntS_some (l : List Int) (hl : l.length ≤ 9223372036854775807) (left : Int) (h0 : 0 ≤ left) (h1 : left ≤ 1048576) :
    ∃ r, laws_szIntS.f l left = some r ∧ r ≤ left ∧ (0 ≤ r → (l.length : Int) ≤ left) := by
  unfold laws_szIntS.f
  rw [w64 (x := left - (l.length : Int)) (by omega) (by omega)]
  by_cases c : left - (l.length : Int) < 0
  · exact ⟨-1, if_pos c, by omega, fun h => by omega⟩
  · exact ⟨left - l.length, if_neg c, by omega, fun h => by omega⟩

def okNode (x : S113) : Prop := x.f2.size ≤ 1048576 ∧ x.f3.size ≤ 1048576 ∧ x.f4.size ≤ 1048576 ∧ x.f5.length ≤ 1048576
def okEntry (x : S143) : Prop := x.f0.size ≤ 1048576 ∧ x.f1.size ≤ 1048576
def okMonitor (x : S117) : Prop := x.f0.size ≤ 1048576 ∧ x.f1.length ≤ 1048576 ∧ (∀ s ∈ x.f1, s.size ≤ 1048576) ∧ x.f2.length ≤ 1048576 ∧ (∀ s ∈ x.f2, s.size ≤ 1048576) ∧ x.f3.length ≤ 1048576 ∧ ∀ e ∈ x.f3, okEntry e
def okProcess (x : S119) : Prop := x.f0.size ≤ 1048576 ∧ x.f1.length ≤ 1048576 ∧ (∀ s ∈ x.f1, s.size ≤ 1048576) ∧ x.f2.length ≤ 1048576 ∧ ∀ s ∈ x.f2, s.size ≤ 1048576
theorem szNode_ev (x : S113) (hg : G113 x) (left : Int) (h0 : 0 ≤ left) (h1 : left ≤ 1048576) : ∃ r, Ev (fun _ => laws_szNode.f x.f0 x.f1 x.f2 x.f3 x.f4 x.f5 left) r ∧ r ≤ left ∧ (0 ≤ r → okNode x) := by
  obtain ⟨a, b, c, d, e, f⟩ := x
  obtain ⟨_, _, g2, g3, g4, g5, _⟩ := hg
  have g2 : c.size ≤ 9223372036854775807 := g2
  have g3 : d.size ≤ 9223372036854775807 := g3
  have g4 : e.size ≤ 9223372036854775807 := g4
  have g5 : f.length ≤ 9223372036854775807 := g5
  simp only [laws_szNode.f, okNode]
  rw [w64 (x := left - (c.size : Int)) (by omega) (by omega)]
  by_cases c1 : left - (c.size : Int) < 0
  · exact ⟨-1, ev_pos c1 (ev_ret _), by omega, fun h => by omega⟩
  · rw [w64 (x := left - (c.size : Int) - (d.size : Int)) (by omega) (by omega)]
    by_cases c2 : left - (c.size : Int) - (d.size : Int) < 0
    · exact ⟨-1, ev_neg c1 (ev_pos c2 (ev_ret _)), by omega, fun h => by omega⟩
    · rw [w64 (x := left - (c.size : Int) - (d.size : Int) - (e.size : Int)) (by omega) (by omega)]
      by_cases c3 : left - (c.size : Int) - (d.size : Int) - (e.size : Int) < 0
      · exact ⟨-1, ev_neg c1 (ev_neg c2 (ev_pos c3 (ev_ret _))), by omega, fun h => by omega⟩
      · obtain ⟨r, hr, hle, hx⟩ := szIntS_some f g5 (left - (c.size : Int) - (d.size : Int) - (e.size : Int)) (by omega) (by omega)
        by_cases c4 : r < 0
        · exact ⟨-1, ev_neg c1 (ev_neg c2 (ev_neg c3 (ev_bindc hr (ev_pos c4 (ev_ret _))))), by omega, fun h => by omega⟩
        · have := hx (by omega)
          exact ⟨r, ev_neg c1 (ev_neg c2 (ev_neg c3 (ev_bindc hr (ev_neg c4 (ev_ret _))))), by omega, fun h => by omega⟩
theorem szEntry_ev (x : S143) (hg : G143 x) (left : Int) (h0 : 0 ≤ left) (h1 : left ≤ 1048576) : ∃ r, Ev (fun _ => laws_szEntry.f x.f0 x.f1 x.f2 left) r ∧ r ≤ left ∧ (0 ≤ r → okEntry x) := by
  obtain ⟨a, b, c⟩ := x
  obtain ⟨g1, g2, _⟩ := hg
  have g1 : a.size ≤ 9223372036854775807 := g1
  have g2 : b.size ≤ 9223372036854775807 := g2
  simp only [laws_szEntry.f, okEntry]
  rw [w64 (x := left - (a.size : Int)) (by omega) (by omega)]
  by_cases c1 : left - (a.size : Int) < 0
  · exact ⟨-1, ev_pos c1 (ev_ret _), by omega, fun h => by omega⟩
  · rw [w64 (x := left - (a.size : Int) - (b.size : Int)) (by omega) (by omega)]
    by_cases c2 : left - (a.size : Int) - (b.size : Int) < 0
    · exact ⟨-1, ev_neg c1 (ev_pos c2 (ev_ret _)), by omega, fun h => by omega⟩
    · exact ⟨_, ev_neg c1 (ev_neg c2 (ev_ret _)), by omega, fun h => by omega⟩
theorem szNodeS_l0 (l : List S113) (hl : l.length ≤ 1048576) (hg : ∀ x ∈ l, G113 x) (n : Nat) : ∀ (left i : Int), 0 ≤ left → left ≤ 1048576 → 0 ≤ i → (l.length : Int) - i = n →
    ∃ r, Ev (fun k => laws_szNodeS.l0 k l left i) r ∧ r ≤ left ∧ (0 ≤ r → ∀ x ∈ l.drop i.toNat, okNode x) := by
  induction n with
  | zero =>
    intro left i h0 h1 hi hn
    refine ⟨left, ev_step ?_, Int.le_refl _, fun _ x hx => ?_⟩
    · simp only [laws_szNodeS.l0]
      exact ev_neg (by omega) (ev_ret _)
    · rw [drop_end hi (by omega)] at hx
      cases hx
  | succ n ih =>
    intro left i h0 h1 hi hn
    have hm : rdOf z113 l i ∈ l := rdOf_mem hi (by omega)
    obtain ⟨q, hq, hle, hx⟩ := szNode_ev (rdOf z113 l i) (hg _ hm) left h0 h1
    rw [drop_rd (d := z113) (l := l) hi (by omega)]
    have step : ∀ r, Ev (fun k => if q < 0 then (some (-1)) else (laws_szNodeS.l0 k l q (wrap64 (i + 1)))) r → Ev (fun k => laws_szNodeS.l0 k l left i) r := by
      intro r h
      refine ev_step ?_
      simp only [laws_szNodeS.l0]
      exact ev_pos (by omega) (ev_pos hi (Ev.bind hq h))
    rw [w64 (x := i + 1) (by omega) (by omega)] at step
    by_cases c : q < 0
    · exact ⟨-1, step _ (ev_pos c (ev_ret _)), by omega, fun h => by omega⟩
    · obtain ⟨r, hr, hle2, hx2⟩ := ih q (i + 1) (by omega) (by omega) (by omega) (by omega)
      refine ⟨r, step _ (ev_neg c hr), by omega, fun h x hm => ?_⟩
      rcases List.mem_cons.1 hm with rfl | hm
      · exact hx (by omega)
      · exact hx2 h x hm
theorem szNodeS_ev (l : List S113) (hg : GL G113 l) (left : Int) (h0 : 0 ≤ left) (h1 : left ≤ 1048576) :
    ∃ r, Ev (fun k => laws_szNodeS.f k l left) r ∧ r ≤ left ∧ (0 ≤ r → l.length ≤ 1048576 ∧ ∀ x ∈ l, okNode x) := by
  have hl : l.length ≤ 9223372036854775807 := hg.1
  unfold laws_szNodeS.f
  rw [w64 (x := left - (l.length : Int)) (by omega) (by omega)]
  by_cases c : left - (l.length : Int) < 0
  · exact ⟨-1, ev_pos c (ev_ret _), by omega, fun h => by omega⟩
  · obtain ⟨r, hr, hle, hx⟩ := szNodeS_l0 l (by omega) hg.2 l.length (left - l.length) 0 (by omega) (by omega) (by omega) (by omega)
    exact ⟨r, ev_neg c hr, by omega, fun h => ⟨by omega, fun x hm => hx h x (by simpa using hm)⟩⟩
theorem szEntryS_l0 (l : List S143) (hl : l.length ≤ 1048576) (hg : ∀ x ∈ l, G143 x) (n : Nat) : ∀ (left i : Int), 0 ≤ left → left ≤ 1048576 → 0 ≤ i → (l.length : Int) - i = n →
    ∃ r, Ev (fun k => laws_szEntryS.l0 k l left i) r ∧ r ≤ left ∧ (0 ≤ r → ∀ x ∈ l.drop i.toNat, okEntry x) := by
  induction n with
  | zero =>
    intro left i h0 h1 hi hn
    refine ⟨left, ev_step ?_, Int.le_refl _, fun _ x hx => ?_⟩
    · simp only [laws_szEntryS.l0]
      exact ev_neg (by omega) (ev_ret _)
    · rw [drop_end hi (by omega)] at hx
      cases hx
  | succ n ih =>
    intro left i h0 h1 hi hn
    have hm : rdOf z143 l i ∈ l := rdOf_mem hi (by omega)
    obtain ⟨q, hq, hle, hx⟩ := szEntry_ev (rdOf z143 l i) (hg _ hm) left h0 h1
    rw [drop_rd (d := z143) (l := l) hi (by omega)]
    have step : ∀ r, Ev (fun k => if q < 0 then (some (-1)) else (laws_szEntryS.l0 k l q (wrap64 (i + 1)))) r → Ev (fun k => laws_szEntryS.l0 k l left i) r := by
      intro r h
      refine ev_step ?_
      simp only [laws_szEntryS.l0]
      exact ev_pos (by omega) (ev_pos hi (Ev.bind hq h))
    rw [w64 (x := i + 1) (by omega) (by omega)] at step
    by_cases c : q < 0
    · exact ⟨-1, step _ (ev_pos c (ev_ret _)), by omega, fun h => by omega⟩
    · obtain ⟨r, hr, hle2, hx2⟩ := ih q (i + 1) (by omega) (by omega) (by omega) (by omega)
      refine ⟨r, step _ (ev_neg c hr), by omega, fun h x hm => ?_⟩
      rcases List.mem_cons.1 hm with rfl | hm
      · exact hx (by omega)
      · exact hx2 h x hm
theorem szEntryS_ev (l : List S143) (hg : GL G143 l) (left : Int) (h0 : 0 ≤ left) (h1 : left ≤ 1048576) :
    ∃ r, Ev (fun k => laws_szEntryS.f k l left) r ∧ r ≤ left ∧ (0 ≤ r → l.length ≤ 1048576 ∧ ∀ x ∈ l, okEntry x) := by
  have hl : l.length ≤ 9223372036854775807 := hg.1
  unfold laws_szEntryS.f
  rw [w64 (x := left - (l.length : Int)) (by omega) (by omega)]
  by_cases c : left - (l.length : Int) < 0
  · exact ⟨-1, ev_pos c (ev_ret _), by omega, fun h => by omega⟩
  · obtain ⟨r, hr, hle, hx⟩ := szEntryS_l0 l (by omega) hg.2 l.length (left - l.length) 0 (by omega) (by omega) (by omega) (by omega)
    exact ⟨r, ev_neg c hr, by omega, fun h => ⟨by omega, fun x hm => hx h x (by simpa using hm)⟩⟩
theorem szStrs_ok {l : List ByteArray} {left : Int} (h1 : left ≤ 1048576) (h : (l.length : Int) ≤ left ∧ ∀ x ∈ l, (x.size : Int) ≤ left) : l.length ≤ 1048576 ∧ ∀ s ∈ l, s.size ≤ 1048576 := by
  refine ⟨by omega, fun s hs => ?_⟩
  have := h.2 s hs
  omega
theorem szMonitor_ev (x : S117) (hg : G117 x) (left : Int) (h0 : 0 ≤ left) (h1 : left ≤ 1048576) : ∃ r, Ev (fun k => laws_szMonitor.f k x.f0 x.f1 x.f2 x.f3 left) r ∧ r ≤ left ∧ (0 ≤ r → okMonitor x) := by
  obtain ⟨a, b, c, d⟩ := x
  obtain ⟨g0, ⟨g1, g1'⟩, ⟨g2, g2'⟩, g3⟩ := hg
  have g0 : a.size ≤ 9223372036854775807 := g0
  simp only [laws_szMonitor.f, okMonitor]
  rw [w64 (x := left - (a.size : Int)) (by omega) (by omega)]
  by_cases c1 : left - (a.size : Int) < 0
  · exact ⟨-1, ev_pos c1 (ev_ret _), by omega, fun h => by omega⟩
  · obtain ⟨p, hp, hple, hpx⟩ := szStringS_ev b g1 g1' (left - (a.size : Int)) (by omega) (by omega)
    by_cases c2 : p < 0
    · exact ⟨-1, ev_neg c1 (Ev.bind hp (ev_pos c2 (ev_ret _))), by omega, fun h => by omega⟩
    · obtain ⟨q, hq, hqle, hqx⟩ := szStringS_ev c g2 g2' p (by omega) (by omega)
      by_cases c3 : q < 0
      · exact ⟨-1, ev_neg c1 (Ev.bind hp (ev_neg c2 (Ev.bind hq (ev_pos c3 (ev_ret _))))), by omega, fun h => by omega⟩
      · obtain ⟨r, hr, hrle, hrx⟩ := szEntryS_ev d g3 q (by omega) (by omega)
        by_cases c4 : r < 0
        · exact ⟨-1, ev_neg c1 (Ev.bind hp (ev_neg c2 (Ev.bind hq (ev_neg c3 (Ev.bind hr (ev_pos c4 (ev_ret _))))))), by omega, fun h => by omega⟩
        · refine ⟨r, ev_neg c1 (Ev.bind hp (ev_neg c2 (Ev.bind hq (ev_neg c3 (Ev.bind hr (ev_neg c4 (ev_ret _))))))), by omega, fun h => ?_⟩
          obtain ⟨e1, e2⟩ := szStrs_ok (by omega) (hpx (by omega))
          obtain ⟨e3, e4⟩ := szStrs_ok (by omega) (hqx (by omega))
          obtain ⟨e5, e6⟩ := hrx (by omega)
          exact ⟨by omega, e1, e2, e3, e4, e5, e6⟩
theorem szProcess_ev (x : S119) (hg : G119 x) (left : Int) (h0 : 0 ≤ left) (h1 : left ≤ 1048576) : ∃ r, Ev (fun k => laws_szProcess.f k x.f0 x.f1 x.f2 x.f3 left) r ∧ r ≤ left ∧ (0 ≤ r → okProcess x) := by
  obtain ⟨a, b, c, d⟩ := x
  obtain ⟨g0, ⟨g1, g1'⟩, ⟨g2, g2'⟩, _⟩ := hg
  have g0 : a.size ≤ 9223372036854775807 := g0
  simp only [laws_szProcess.f, okProcess]
  rw [w64 (x := left - (a.size : Int)) (by omega) (by omega)]
  by_cases c1 : left - (a.size : Int) < 0
  · exact ⟨-1, ev_pos c1 (ev_ret _), by omega, fun h => by omega⟩
  · obtain ⟨p, hp, hple, hpx⟩ := szStringS_ev b g1 g1' (left - (a.size : Int)) (by omega) (by omega)
    by_cases c2 : p < 0
    · exact ⟨-1, ev_neg c1 (Ev.bind hp (ev_pos c2 (ev_ret _))), by omega, fun h => by omega⟩
    · obtain ⟨q, hq, hqle, hqx⟩ := szStringS_ev c g2 g2' p (by omega) (by omega)
      by_cases c3 : q < 0
      · exact ⟨-1, ev_neg c1 (Ev.bind hp (ev_neg c2 (Ev.bind hq (ev_pos c3 (ev_ret _))))), by omega, fun h => by omega⟩
      · refine ⟨q, ev_neg c1 (Ev.bind hp (ev_neg c2 (Ev.bind hq (ev_neg c3 (ev_ret _))))), by omega, fun h => ?_⟩
        obtain ⟨e1, e2⟩ := szStrs_ok (by omega) (hpx (by omega))
        obtain ⟨e3, e4⟩ := szStrs_ok (by omega) (hqx (by omega))
        exact ⟨by omega, e1, e2, e3, e4⟩
theorem szMonitorS_l0 (l : List S117) (hl : l.length ≤ 1048576) (hg : ∀ x ∈ l, G117 x) (n : Nat) : ∀ (left i : Int), 0 ≤ left → left ≤ 1048576 → 0 ≤ i → (l.length : Int) - i = n →
    ∃ r, Ev (fun k => laws_szMonitorS.l0 k l left i) r ∧ r ≤ left ∧ (0 ≤ r → ∀ x ∈ l.drop i.toNat, okMonitor x) := by
  induction n with
  | zero =>
    intro left i h0 h1 hi hn
    refine ⟨left, ev_step ?_, Int.le_refl _, fun _ x hx => ?_⟩
    · simp only [laws_szMonitorS.l0]
      exact ev_neg (by omega) (ev_ret _)
    · rw [drop_end hi (by omega)] at hx
      cases hx
  | succ n ih =>
    intro left i h0 h1 hi hn
    have hm : rdOf z117 l i ∈ l := rdOf_mem hi (by omega)
    obtain ⟨q, hq, hle, hx⟩ := szMonitor_ev (rdOf z117 l i) (hg _ hm) left h0 h1
    rw [drop_rd (d := z117) (l := l) hi (by omega)]
    have step : ∀ r, Ev (fun k => if q < 0 then (some (-1)) else (laws_szMonitorS.l0 k l q (wrap64 (i + 1)))) r → Ev (fun k => laws_szMonitorS.l0 k l left i) r := by
      intro r h
      refine ev_step ?_
      simp only [laws_szMonitorS.l0]
      exact ev_pos (by omega) (ev_pos hi (Ev.bind hq h))
    rw [w64 (x := i + 1) (by omega) (by omega)] at step
    by_cases c : q < 0
    · exact ⟨-1, step _ (ev_pos c (ev_ret _)), by omega, fun h => by omega⟩
    · obtain ⟨r, hr, hle2, hx2⟩ := ih q (i + 1) (by omega) (by omega) (by omega) (by omega)
      refine ⟨r, step _ (ev_neg c hr), by omega, fun h x hm => ?_⟩
      rcases List.mem_cons.1 hm with rfl | hm
      · exact hx (by omega)
      · exact hx2 h x hm
theorem szMonitorS_ev (l : List S117) (hg : GL G117 l) (left : Int) (h0 : 0 ≤ left) (h1 : left ≤ 1048576) :
    ∃ r, Ev (fun k => laws_szMonitorS.f k l left) r ∧ r ≤ left ∧ (0 ≤ r → l.length ≤ 1048576 ∧ ∀ x ∈ l, okMonitor x) := by
  have hl : l.length ≤ 9223372036854775807 := hg.1
  unfold laws_szMonitorS.f
  rw [w64 (x := left - (l.length : Int)) (by omega) (by omega)]
  by_cases c : left - (l.length : Int) < 0
  · exact ⟨-1, ev_pos c (ev_ret _), by omega, fun h => by omega⟩
  · obtain ⟨r, hr, hle, hx⟩ := szMonitorS_l0 l (by omega) hg.2 l.length (left - l.length) 0 (by omega) (by omega) (by omega) (by omega)
    exact ⟨r, ev_neg c hr, by omega, fun h => ⟨by omega, fun x hm => hx h x (by simpa using hm)⟩⟩
theorem szProcessS_l0 (l : List S119) (hl : l.length ≤ 1048576) (hg : ∀ x ∈ l, G119 x) (n : Nat) : ∀ (left i : Int), 0 ≤ left → left ≤ 1048576 → 0 ≤ i → (l.length : Int) - i = n →
    ∃ r, Ev (fun k => laws_szProcessS.l0 k l left i) r ∧ r ≤ left ∧ (0 ≤ r → ∀ x ∈ l.drop i.toNat, okProcess x) := by
  induction n with
  | zero =>
    intro left i h0 h1 hi hn
    refine ⟨left, ev_step ?_, Int.le_refl _, fun _ x hx => ?_⟩
    · simp only [laws_szProcessS.l0]
      exact ev_neg (by omega) (ev_ret _)
    · rw [drop_end hi (by omega)] at hx
      cases hx
  | succ n ih =>
    intro left i h0 h1 hi hn
    have hm : rdOf z119 l i ∈ l := rdOf_mem hi (by omega)
    obtain ⟨q, hq, hle, hx⟩ := szProcess_ev (rdOf z119 l i) (hg _ hm) left h0 h1
    rw [drop_rd (d := z119) (l := l) hi (by omega)]
    have step : ∀ r, Ev (fun k => if q < 0 then (some (-1)) else (laws_szProcessS.l0 k l q (wrap64 (i + 1)))) r → Ev (fun k => laws_szProcessS.l0 k l left i) r := by
      intro r h
      refine ev_step ?_
      simp only [laws_szProcessS.l0]
      exact ev_pos (by omega) (ev_pos hi (Ev.bind hq h))
    rw [w64 (x := i + 1) (by omega) (by omega)] at step
    by_cases c : q < 0
    · exact ⟨-1, step _ (ev_pos c (ev_ret _)), by omega, fun h => by omega⟩
    · obtain ⟨r, hr, hle2, hx2⟩ := ih q (i + 1) (by omega) (by omega) (by omega) (by omega)
      refine ⟨r, step _ (ev_neg c hr), by omega, fun h x hm => ?_⟩
      rcases List.mem_cons.1 hm with rfl | hm
      · exact hx (by omega)
      · exact hx2 h x hm
theorem szProcessS_ev (l : List S119) (hg : GL G119 l) (left : Int) (h0 : 0 ≤ left) (h1 : left ≤ 1048576) :
    ∃ r, Ev (fun k => laws_szProcessS.f k l left) r ∧ r ≤ left ∧ (0 ≤ r → l.length ≤ 1048576 ∧ ∀ x ∈ l, okProcess x) := by
  have hl : l.length ≤ 9223372036854775807 := hg.1
  unfold laws_szProcessS.f
  rw [w64 (x := left - (l.length : Int)) (by omega) (by omega)]
  by_cases c : left - (l.length : Int) < 0
  · exact ⟨-1, ev_pos c (ev_ret _), by omega, fun h => by omega⟩
  · obtain ⟨r, hr, hle, hx⟩ := szProcessS_l0 l (by omega) hg.2 l.length (left - l.length) 0 (by omega) (by omega) (by omega) (by omega)
    exact ⟨r, ev_neg c hr, by omega, fun h => ⟨by omega, fun x hm => hx h x (by simpa using hm)⟩⟩
def okProg (a : List S113) (b : List S117) (c : List S119) : Prop := (a.length ≤ 1048576 ∧ ∀ x ∈ a, okNode x) ∧ (b.length ≤ 1048576 ∧ ∀ x ∈ b, okMonitor x) ∧ (c.length ≤ 1048576 ∧ ∀ x ∈ c, okProcess x)
theorem szProgram_ev (a : List S113) (b : List S117) (c : List S119) (ga : GL G113 a) (gb : GL G117 b) (gc : GL G119 c) (left : Int) (h0 : 0 ≤ left) (h1 : left ≤ 1048576) :
    ∃ r, Ev (fun k => laws_szProgram.f k a b c left) r ∧ r ≤ left ∧ (0 ≤ r → okProg a b c) := by
  unfold laws_szProgram.f
  obtain ⟨p, hp, hple, hpx⟩ := szNodeS_ev a ga left h0 h1
  by_cases c1 : p < 0
  · exact ⟨-1, Ev.bind hp (ev_pos c1 (ev_ret _)), by omega, fun h => by omega⟩
  · obtain ⟨q, hq, hqle, hqx⟩ := szMonitorS_ev b gb p (by omega) (by omega)
    by_cases c2 : q < 0
    · exact ⟨-1, Ev.bind hp (ev_neg c1 (Ev.bind hq (ev_pos c2 (ev_ret _)))), by omega, fun h => by omega⟩
    · obtain ⟨r, hr, hrle, hrx⟩ := szProcessS_ev c gc q (by omega) (by omega)
      by_cases c3 : r < 0
      · exact ⟨-1, Ev.bind hp (ev_neg c1 (Ev.bind hq (ev_neg c2 (Ev.bind hr (ev_pos c3 (ev_ret _)))))), by omega, fun h => by omega⟩
      · exact ⟨r, Ev.bind hp (ev_neg c1 (Ev.bind hq (ev_neg c2 (Ev.bind hr (ev_neg c3 (ev_ret _)))))), by omega, fun h => ⟨hpx (by omega), hqx (by omega), hrx (by omega)⟩⟩

theorem toStringS_l0 (src : List ByteArray) (hl : src.length ≤ 1048576) (n : Nat) : ∀ (acc : List ByteArray) (i : Int), 0 ≤ i → (src.length : Int) - i = n → acc.length = src.length → acc.take i.toNat = src.take i.toNat → Ev (fun k => laws_toStringS.l0 k src acc i) src := by
  induction n with
  | zero =>
    intro acc i h0 hn ha ht
    refine ev_step ?_
    simp only [laws_toStringS.l0]
    exact ev_neg (by omega) (ev_eq (copy_end h0 (by omega) ha ht) (ev_ret _))
  | succ n ih =>
    intro acc i h0 hn ha ht
    refine ev_step ?_
    simp only [laws_toStringS.l0]
    obtain ⟨h2, h3⟩ := copy_step ByteArray.empty h0 (by omega) ha ht
    refine ev_pos (by omega) (ev_pos h0 (ev_pos (by omega) ?_))
    rw [w64 (x := i + 1) (by omega) (by omega)]
    exact ih _ (i + 1) (by omega) (by omega) h2 h3
theorem toStringS_ev (src : List ByteArray) (hl : src.length ≤ 1048576) : Ev (fun k => laws_toStringS.f k src) src := by
  unfold laws_toStringS.f
  exact ev_pos (by omega) (ev_pos (by omega) (toStringS_l0 src hl src.length _ 0 (by omega) (by omega) (by simp) rfl))

theorem toIntS_l0 (src : List Int) (hl : src.length ≤ 1048576) (n : Nat) : ∀ (acc : List Int) (i : Int), 0 ≤ i → (src.length : Int) - i = n → acc.length = src.length → acc.take i.toNat = src.take i.toNat → Ev (fun k => laws_toIntS.l0 k src acc i) src := by
  induction n with
  | zero =>
    intro acc i h0 hn ha ht
    refine ev_step ?_
    simp only [laws_toIntS.l0]
    exact ev_neg (by omega) (ev_eq (copy_end h0 (by omega) ha ht) (ev_ret _))
  | succ n ih =>
    intro acc i h0 hn ha ht
    refine ev_step ?_
    simp only [laws_toIntS.l0, rd_rdOf]
    obtain ⟨h2, h3⟩ := copy_step 0 h0 (by omega) ha ht
    refine ev_pos (by omega) (ev_pos h0 (ev_pos (by omega) ?_))
    rw [w64 (x := i + 1) (by omega) (by omega)]
    exact ih _ (i + 1) (by omega) (by omega) h2 h3
theorem toIntS_ev (src : List Int) (hl : src.length ≤ 1048576) : Ev (fun k => laws_toIntS.f k src) src := by
  unfold laws_toIntS.f
  exact ev_pos (by omega) (ev_pos (by omega) (toIntS_l0 src hl src.length _ 0 (by omega) (by omega) (by simp) rfl))

def cNode (x : S113) : S77 := ⟨x.f0, x.f1, x.f2, x.f3, x.f4, x.f5⟩
def cEntry (x : S143) : S131 := ⟨x.f0, x.f1, x.f2⟩
def cMonitor (x : S117) : S106 := ⟨x.f0, x.f1, x.f2, x.f3.map cEntry⟩
def cProcess (x : S119) : S103 := ⟨x.f0, x.f1, x.f2, x.f3⟩
theorem toNode_ev (x : S113) (h : okNode x) : Ev (fun k => laws_toNode.f k x.f0 x.f1 x.f2 x.f3 x.f4 x.f5) (x.f0, x.f1, x.f2, x.f3, x.f4, x.f5) := by
  unfold laws_toNode.f
  exact Ev.bind (toIntS_ev _ h.2.2.2) (ev_ret _)
theorem toEntry_ev (x : S143) (h : okEntry x) : Ev (fun _ => laws_toEntry.f x.f0 x.f1 x.f2) (x.f0, x.f1, x.f2) := by
  unfold laws_toEntry.f
  exact ev_ret _
theorem toProcess_ev (x : S119) (h : okProcess x) : Ev (fun k => laws_toProcess.f k x.f0 x.f1 x.f2 x.f3) (x.f0, x.f1, x.f2, x.f3) := by
  unfold laws_toProcess.f
  exact Ev.bind (toStringS_ev _ h.2.1) (Ev.bind (toStringS_ev _ h.2.2.2.1) (ev_ret _))
theorem toNodeS_l0 (l : List S113) (hl : l.length ≤ 1048576) (hk : ∀ x ∈ l, okNode x) (n : Nat) : ∀ (acc : List S77) (i : Int), 0 ≤ i → (l.length : Int) - i = n → acc.length = (l.map cNode).length → acc.take i.toNat = (l.map cNode).take i.toNat → Ev (fun k => laws_toNodeS.l0 k l acc i) (l.map cNode) := by
  have hlm : (l.map cNode).length = l.length := List.length_map ..
  induction n with
  | zero =>
    intro acc i h0 hn ha ht
    refine ev_step ?_
    simp only [laws_toNodeS.l0]
    exact ev_neg (by omega) (ev_eq (copy_end h0 (by omega) ha ht) (ev_ret _))
  | succ n ih =>
    intro acc i h0 hn ha ht
    refine ev_step ?_
    simp only [laws_toNodeS.l0]
    have hm : rdOf z113 l i ∈ l := rdOf_mem h0 (by omega)
    obtain ⟨h2, h3⟩ := copy_step z77 h0 (by omega) ha ht
    have hv : rdOf z77 (l.map cNode) i = cNode (rdOf z113 l i) := by
      unfold rdOf
      rw [List.getD_eq_getElem?_getD, List.getD_eq_getElem?_getD, List.getElem?_map, List.getElem?_eq_getElem (show i.toNat < l.length by omega)]
      rfl
    rw [hv] at h2 h3
    refine ev_pos (by omega) (ev_pos h0 (Ev.bind (toNode_ev (rdOf z113 l i) (hk _ hm)) (ev_pos (by omega) ?_)))
    rw [w64 (x := i + 1) (by omega) (by omega)]
    exact ih _ (i + 1) (by omega) (by omega) h2 h3
theorem toNodeS_ev (l : List S113) (hl : l.length ≤ 1048576) (hk : ∀ x ∈ l, okNode x) : Ev (fun k => laws_toNodeS.f k l) (l.map cNode) := by
  unfold laws_toNodeS.f
  exact ev_pos (by omega) (ev_pos (by omega) (toNodeS_l0 l hl hk l.length _ 0 (by omega) (by omega) (by simp) rfl))
theorem toEntryS_l0 (l : List S143) (hl : l.length ≤ 1048576) (hk : ∀ x ∈ l, okEntry x) (n : Nat) : ∀ (acc : List S131) (i : Int), 0 ≤ i → (l.length : Int) - i = n → acc.length = (l.map cEntry).length → acc.take i.toNat = (l.map cEntry).take i.toNat → Ev (fun k => laws_toEntryS.l0 k l acc i) (l.map cEntry) := by
  have hlm : (l.map cEntry).length = l.length := List.length_map ..
  induction n with
  | zero =>
    intro acc i h0 hn ha ht
    refine ev_step ?_
    simp only [laws_toEntryS.l0]
    exact ev_neg (by omega) (ev_eq (copy_end h0 (by omega) ha ht) (ev_ret _))
  | succ n ih =>
    intro acc i h0 hn ha ht
    refine ev_step ?_
    simp only [laws_toEntryS.l0]
    have hm : rdOf z143 l i ∈ l := rdOf_mem h0 (by omega)
    obtain ⟨h2, h3⟩ := copy_step z131 h0 (by omega) ha ht
    have hv : rdOf z131 (l.map cEntry) i = cEntry (rdOf z143 l i) := by
      unfold rdOf
      rw [List.getD_eq_getElem?_getD, List.getD_eq_getElem?_getD, List.getElem?_map, List.getElem?_eq_getElem (show i.toNat < l.length by omega)]
      rfl
    rw [hv] at h2 h3
    refine ev_pos (by omega) (ev_pos h0 (Ev.bind (toEntry_ev (rdOf z143 l i) (hk _ hm)) (ev_pos (by omega) ?_)))
    rw [w64 (x := i + 1) (by omega) (by omega)]
    exact ih _ (i + 1) (by omega) (by omega) h2 h3
theorem toEntryS_ev (l : List S143) (hl : l.length ≤ 1048576) (hk : ∀ x ∈ l, okEntry x) : Ev (fun k => laws_toEntryS.f k l) (l.map cEntry) := by
  unfold laws_toEntryS.f
  exact ev_pos (by omega) (ev_pos (by omega) (toEntryS_l0 l hl hk l.length _ 0 (by omega) (by omega) (by simp) rfl))
theorem toMonitor_ev (x : S117) (h : okMonitor x) : Ev (fun k => laws_toMonitor.f k x.f0 x.f1 x.f2 x.f3) (x.f0, x.f1, x.f2, x.f3.map cEntry) := by
  unfold laws_toMonitor.f
  exact Ev.bind (toStringS_ev _ h.2.1) (Ev.bind (toStringS_ev _ h.2.2.2.1) (Ev.bind (toEntryS_ev _ h.2.2.2.2.2.1 h.2.2.2.2.2.2) (ev_ret _)))
theorem toMonitorS_l0 (l : List S117) (hl : l.length ≤ 1048576) (hk : ∀ x ∈ l, okMonitor x) (n : Nat) : ∀ (acc : List S106) (i : Int), 0 ≤ i → (l.length : Int) - i = n → acc.length = (l.map cMonitor).length → acc.take i.toNat = (l.map cMonitor).take i.toNat → Ev (fun k => laws_toMonitorS.l0 k l acc i) (l.map cMonitor) := by
  have hlm : (l.map cMonitor).length = l.length := List.length_map ..
  induction n with
  | zero =>
    intro acc i h0 hn ha ht
    refine ev_step ?_
    simp only [laws_toMonitorS.l0]
    exact ev_neg (by omega) (ev_eq (copy_end h0 (by omega) ha ht) (ev_ret _))
  | succ n ih =>
    intro acc i h0 hn ha ht
    refine ev_step ?_
    simp only [laws_toMonitorS.l0]
    have hm : rdOf z117 l i ∈ l := rdOf_mem h0 (by omega)
    obtain ⟨h2, h3⟩ := copy_step z106 h0 (by omega) ha ht
    have hv : rdOf z106 (l.map cMonitor) i = cMonitor (rdOf z117 l i) := by
      unfold rdOf
      rw [List.getD_eq_getElem?_getD, List.getD_eq_getElem?_getD, List.getElem?_map, List.getElem?_eq_getElem (show i.toNat < l.length by omega)]
      rfl
    rw [hv] at h2 h3
    refine ev_pos (by omega) (ev_pos h0 (Ev.bind (toMonitor_ev (rdOf z117 l i) (hk _ hm)) (ev_pos (by omega) ?_)))
    rw [w64 (x := i + 1) (by omega) (by omega)]
    exact ih _ (i + 1) (by omega) (by omega) h2 h3
theorem toMonitorS_ev (l : List S117) (hl : l.length ≤ 1048576) (hk : ∀ x ∈ l, okMonitor x) : Ev (fun k => laws_toMonitorS.f k l) (l.map cMonitor) := by
  unfold laws_toMonitorS.f
  exact ev_pos (by omega) (ev_pos (by omega) (toMonitorS_l0 l hl hk l.length _ 0 (by omega) (by omega) (by simp) rfl))
theorem toProcessS_l0 (l : List S119) (hl : l.length ≤ 1048576) (hk : ∀ x ∈ l, okProcess x) (n : Nat) : ∀ (acc : List S103) (i : Int), 0 ≤ i → (l.length : Int) - i = n → acc.length = (l.map cProcess).length → acc.take i.toNat = (l.map cProcess).take i.toNat → Ev (fun k => laws_toProcessS.l0 k l acc i) (l.map cProcess) := by
  have hlm : (l.map cProcess).length = l.length := List.length_map ..
  induction n with
  | zero =>
    intro acc i h0 hn ha ht
    refine ev_step ?_
    simp only [laws_toProcessS.l0]
    exact ev_neg (by omega) (ev_eq (copy_end h0 (by omega) ha ht) (ev_ret _))
  | succ n ih =>
    intro acc i h0 hn ha ht
    refine ev_step ?_
    simp only [laws_toProcessS.l0]
    have hm : rdOf z119 l i ∈ l := rdOf_mem h0 (by omega)
    obtain ⟨h2, h3⟩ := copy_step z103 h0 (by omega) ha ht
    have hv : rdOf z103 (l.map cProcess) i = cProcess (rdOf z119 l i) := by
      unfold rdOf
      rw [List.getD_eq_getElem?_getD, List.getD_eq_getElem?_getD, List.getElem?_map, List.getElem?_eq_getElem (show i.toNat < l.length by omega)]
      rfl
    rw [hv] at h2 h3
    refine ev_pos (by omega) (ev_pos h0 (Ev.bind (toProcess_ev (rdOf z119 l i) (hk _ hm)) (ev_pos (by omega) ?_)))
    rw [w64 (x := i + 1) (by omega) (by omega)]
    exact ih _ (i + 1) (by omega) (by omega) h2 h3
theorem toProcessS_ev (l : List S119) (hl : l.length ≤ 1048576) (hk : ∀ x ∈ l, okProcess x) : Ev (fun k => laws_toProcessS.f k l) (l.map cProcess) := by
  unfold laws_toProcessS.f
  exact ev_pos (by omega) (ev_pos (by omega) (toProcessS_l0 l hl hk l.length _ 0 (by omega) (by omega) (by simp) rfl))
theorem toProgram_ev (a : List S113) (b : List S117) (c : List S119) (h : okProg a b c) : Ev (fun k => laws_toProgram.f k a b c) (a.map cNode, b.map cMonitor, c.map cProcess) := by
  unfold laws_toProgram.f
  exact Ev.bind (toNodeS_ev _ h.1.1 h.1.2) (Ev.bind (toMonitorS_ev _ h.2.1.1 h.2.1.2) (Ev.bind (toProcessS_ev _ h.2.2.1 h.2.2.2) (ev_ret _)))

theorem eqStringS_l0 (l : List ByteArray) (hl : l.length ≤ 9223372036854775807) (n : Nat) : ∀ i : Int, 0 ≤ i → (l.length : Int) - i = n → Ev (fun k => laws_eqStringS.l0 k l l i) true := by
  induction n with
  | zero =>
    intro i h0 hn
    refine ev_step ?_
    simp only [laws_eqStringS.l0]
    exact ev_neg (by omega) (ev_ret _)
  | succ n ih =>
    intro i h0 hn
    refine ev_step ?_
    simp only [laws_eqStringS.l0]
    refine ev_pos (by omega) (ev_pos h0 (ev_pos (by omega) (ev_pos (by simp) ?_)))
    rw [w64 (x := i + 1) (by omega) (by omega)]
    exact ih (i + 1) (by omega) (by omega)
theorem eqStringS_ev (l : List ByteArray) (hl : l.length ≤ 9223372036854775807) : Ev (fun k => laws_eqStringS.f k l l) true := by
  unfold laws_eqStringS.f
  exact ev_pos rfl (eqStringS_l0 l hl l.length 0 (by omega) (by omega))

theorem eqIntS_l0 (l : List Int) (hl : l.length ≤ 9223372036854775807) (n : Nat) : ∀ i : Int, 0 ≤ i → (l.length : Int) - i = n → Ev (fun k => laws_eqIntS.l0 k l l i) true := by
  induction n with
  | zero =>
    intro i h0 hn
    refine ev_step ?_
    simp only [laws_eqIntS.l0]
    exact ev_neg (by omega) (ev_ret _)
  | succ n ih =>
    intro i h0 hn
    refine ev_step ?_
    simp only [laws_eqIntS.l0]
    refine ev_pos (by omega) (ev_pos h0 (ev_pos (by omega) (ev_pos (by simp) ?_)))
    rw [w64 (x := i + 1) (by omega) (by omega)]
    exact ih (i + 1) (by omega) (by omega)
theorem eqIntS_ev (l : List Int) (hl : l.length ≤ 9223372036854775807) : Ev (fun k => laws_eqIntS.f k l l) true := by
  unfold laws_eqIntS.f
  exact ev_pos rfl (eqIntS_l0 l hl l.length 0 (by omega) (by omega))

def fitNode (x : S77) : Prop := x.f5.length ≤ 9223372036854775807
def fitEntry (_ : S131) : Prop := True
def fitMonitor (x : S106) : Prop := x.f1.length ≤ 9223372036854775807 ∧ x.f2.length ≤ 9223372036854775807 ∧ x.f3.length ≤ 9223372036854775807
def fitProcess (x : S103) : Prop := x.f1.length ≤ 9223372036854775807 ∧ x.f2.length ≤ 9223372036854775807
theorem eqNode_ev (x : S77) (h : fitNode x) : Ev (fun k => laws_eqNode.f k x.f0 x.f1 x.f2 x.f3 x.f4 x.f5 x.f0 x.f1 x.f2 x.f3 x.f4 x.f5) true := by
  unfold laws_eqNode.f
  exact ev_pos rfl (ev_pos rfl (ev_pos rfl (ev_pos rfl (ev_pos rfl (Ev.bind (eqIntS_ev _ h) (ev_pos rfl (ev_ret _)))))))
theorem eqEntry_ev (x : S131) (h : fitEntry x) : Ev (fun _ => laws_eqEntry.f x.f0 x.f1 x.f2 x.f0 x.f1 x.f2) true := by
  unfold laws_eqEntry.f
  exact ev_pos rfl (ev_pos rfl (ev_pos rfl (ev_ret _)))
theorem eqProcess_ev (x : S103) (h : fitProcess x) : Ev (fun k => laws_eqProcess.f k x.f0 x.f1 x.f2 x.f3 x.f0 x.f1 x.f2 x.f3) true := by
  unfold laws_eqProcess.f
  exact ev_pos rfl (Ev.bind (eqStringS_ev _ h.1) (ev_pos rfl (Ev.bind (eqStringS_ev _ h.2) (ev_pos rfl (ev_pos rfl (ev_ret _))))))
theorem eqNodeS_l0 (l : List S77) (hl : l.length ≤ 9223372036854775807) (hk : ∀ x ∈ l, fitNode x) (n : Nat) : ∀ i : Int, 0 ≤ i → (l.length : Int) - i = n → Ev (fun k => laws_eqNodeS.l0 k l l i) true := by
  induction n with
  | zero =>
    intro i h0 hn
    refine ev_step ?_
    simp only [laws_eqNodeS.l0]
    exact ev_neg (by omega) (ev_ret _)
  | succ n ih =>
    intro i h0 hn
    refine ev_step ?_
    simp only [laws_eqNodeS.l0]
    have hm : rdOf z77 l i ∈ l := rdOf_mem h0 (by omega)
    refine ev_pos (by omega) (ev_pos h0 (ev_pos (by omega) (Ev.bind (eqNode_ev (rdOf z77 l i) (hk _ hm)) (ev_pos rfl ?_))))
    rw [w64 (x := i + 1) (by omega) (by omega)]
    exact ih (i + 1) (by omega) (by omega)
theorem eqNodeS_ev (l : List S77) (hl : l.length ≤ 9223372036854775807) (hk : ∀ x ∈ l, fitNode x) : Ev (fun k => laws_eqNodeS.f k l l) true := by
  unfold laws_eqNodeS.f
  exact ev_pos rfl (eqNodeS_l0 l hl hk l.length 0 (by omega) (by omega))
theorem eqEntryS_l0 (l : List S131) (hl : l.length ≤ 9223372036854775807) (hk : ∀ x ∈ l, fitEntry x) (n : Nat) : ∀ i : Int, 0 ≤ i → (l.length : Int) - i = n → Ev (fun k => laws_eqEntryS.l0 k l l i) true := by
  induction n with
  | zero =>
    intro i h0 hn
    refine ev_step ?_
    simp only [laws_eqEntryS.l0]
    exact ev_neg (by omega) (ev_ret _)
  | succ n ih =>
    intro i h0 hn
    refine ev_step ?_
    simp only [laws_eqEntryS.l0]
    have hm : rdOf z131 l i ∈ l := rdOf_mem h0 (by omega)
    refine ev_pos (by omega) (ev_pos h0 (ev_pos (by omega) (Ev.bind (eqEntry_ev (rdOf z131 l i) (hk _ hm)) (ev_pos rfl ?_))))
    rw [w64 (x := i + 1) (by omega) (by omega)]
    exact ih (i + 1) (by omega) (by omega)
theorem eqEntryS_ev (l : List S131) (hl : l.length ≤ 9223372036854775807) (hk : ∀ x ∈ l, fitEntry x) : Ev (fun k => laws_eqEntryS.f k l l) true := by
  unfold laws_eqEntryS.f
  exact ev_pos rfl (eqEntryS_l0 l hl hk l.length 0 (by omega) (by omega))
theorem eqMonitor_ev (x : S106) (h : fitMonitor x) : Ev (fun k => laws_eqMonitor.f k x.f0 x.f1 x.f2 x.f3 x.f0 x.f1 x.f2 x.f3) true := by
  unfold laws_eqMonitor.f
  exact ev_pos rfl (Ev.bind (eqStringS_ev _ h.1) (ev_pos rfl (Ev.bind (eqStringS_ev _ h.2.1) (ev_pos rfl (Ev.bind (eqEntryS_ev _ h.2.2 (fun _ _ => trivial)) (ev_pos rfl (ev_ret _)))))))
theorem eqMonitorS_l0 (l : List S106) (hl : l.length ≤ 9223372036854775807) (hk : ∀ x ∈ l, fitMonitor x) (n : Nat) : ∀ i : Int, 0 ≤ i → (l.length : Int) - i = n → Ev (fun k => laws_eqMonitorS.l0 k l l i) true := by
  induction n with
  | zero =>
    intro i h0 hn
    refine ev_step ?_
    simp only [laws_eqMonitorS.l0]
    exact ev_neg (by omega) (ev_ret _)
  | succ n ih =>
    intro i h0 hn
    refine ev_step ?_
    simp only [laws_eqMonitorS.l0]
    have hm : rdOf z106 l i ∈ l := rdOf_mem h0 (by omega)
    refine ev_pos (by omega) (ev_pos h0 (ev_pos (by omega) (Ev.bind (eqMonitor_ev (rdOf z106 l i) (hk _ hm)) (ev_pos rfl ?_))))
    rw [w64 (x := i + 1) (by omega) (by omega)]
    exact ih (i + 1) (by omega) (by omega)
theorem eqMonitorS_ev (l : List S106) (hl : l.length ≤ 9223372036854775807) (hk : ∀ x ∈ l, fitMonitor x) : Ev (fun k => laws_eqMonitorS.f k l l) true := by
  unfold laws_eqMonitorS.f
  exact ev_pos rfl (eqMonitorS_l0 l hl hk l.length 0 (by omega) (by omega))
theorem eqProcessS_l0 (l : List S103) (hl : l.length ≤ 9223372036854775807) (hk : ∀ x ∈ l, fitProcess x) (n : Nat) : ∀ i : Int, 0 ≤ i → (l.length : Int) - i = n → Ev (fun k => laws_eqProcessS.l0 k l l i) true := by
  induction n with
  | zero =>
    intro i h0 hn
    refine ev_step ?_
    simp only [laws_eqProcessS.l0]
    exact ev_neg (by omega) (ev_ret _)
  | succ n ih =>
    intro i h0 hn
    refine ev_step ?_
    simp only [laws_eqProcessS.l0]
    have hm : rdOf z103 l i ∈ l := rdOf_mem h0 (by omega)
    refine ev_pos (by omega) (ev_pos h0 (ev_pos (by omega) (Ev.bind (eqProcess_ev (rdOf z103 l i) (hk _ hm)) (ev_pos rfl ?_))))
    rw [w64 (x := i + 1) (by omega) (by omega)]
    exact ih (i + 1) (by omega) (by omega)
theorem eqProcessS_ev (l : List S103) (hl : l.length ≤ 9223372036854775807) (hk : ∀ x ∈ l, fitProcess x) : Ev (fun k => laws_eqProcessS.f k l l) true := by
  unfold laws_eqProcessS.f
  exact ev_pos rfl (eqProcessS_l0 l hl hk l.length 0 (by omega) (by omega))
theorem eqProgram_ev (a : List S113) (b : List S117) (c : List S119) (h : okProg a b c) : Ev (fun k => laws_eqProgram.f k (a.map cNode) (b.map cMonitor) (c.map cProcess) (a.map cNode) (b.map cMonitor) (c.map cProcess)) true := by
  have h1 : ∀ x ∈ a.map cNode, fitNode x := by
    intro x hx
    obtain ⟨y, hy, rfl⟩ := List.mem_map.1 hx
    have := (h.1.2 y hy).2.2.2
    show y.f5.length ≤ 9223372036854775807
    omega
  have h2 : ∀ x ∈ b.map cMonitor, fitMonitor x := by
    intro x hx
    obtain ⟨y, hy, rfl⟩ := List.mem_map.1 hx
    obtain ⟨_, e1, _, e2, _, e3, _⟩ := h.2.1.2 y hy
    refine ⟨?_, ?_, ?_⟩
    · show y.f1.length ≤ 9223372036854775807
      omega
    · show y.f2.length ≤ 9223372036854775807
      omega
    · show (y.f3.map cEntry).length ≤ 9223372036854775807
      rw [List.length_map]
      omega
  have h3 : ∀ x ∈ c.map cProcess, fitProcess x := by
    intro x hx
    obtain ⟨y, hy, rfl⟩ := List.mem_map.1 hx
    obtain ⟨_, e1, _, e2, _⟩ := h.2.2.2 y hy
    refine ⟨?_, ?_⟩
    · show y.f1.length ≤ 9223372036854775807
      omega
    · show y.f2.length ≤ 9223372036854775807
      omega
  obtain ⟨⟨l1, _⟩, ⟨l2, _⟩, ⟨l3, _⟩⟩ := h
  unfold laws_eqProgram.f
  exact Ev.bind (eqNodeS_ev _ (by rw [List.length_map]; omega) h1) (ev_pos rfl (Ev.bind (eqMonitorS_ev _ (by rw [List.length_map]; omega) h2) (ev_pos rfl (Ev.bind (eqProcessS_ev _ (by rw [List.length_map]; omega) h3) (ev_pos rfl (ev_ret _))))))

theorem within_some (n lo hi : Int) : impl_within.f n lo hi = some (decide (lo ≤ n ∧ n ≤ hi)) := by
  unfold impl_within.f
  by_cases c : n ≥ lo
  · rw [if_pos c]
    simp [c]
  · rw [if_neg c]
    have c' : ¬ lo ≤ n := c
    simp [c']

theorem l01In_some (n lo hi : Int) : spec_l01In.f n lo hi = some (decide (lo ≤ n ∧ n ≤ hi)) := by
  unfold spec_l01In.f
  by_cases c : n ≥ lo
  · rw [if_pos c]
    simp [c]
  · rw [if_neg c]
    have c' : ¬ lo ≤ n := c
    simp [c']

def keyList : List ByteArray := [(⟨#[109, 111, 110, 105, 116, 111, 114]⟩ : ByteArray), (⟨#[118, 97, 114]⟩ : ByteArray), (⟨#[113, 117, 101, 117, 101]⟩ : ByteArray), (⟨#[101, 110, 116, 114, 121]⟩ : ByteArray), (⟨#[112, 114, 111, 99, 101, 115, 115]⟩ : ByteArray), (⟨#[117, 115, 101, 115]⟩ : ByteArray), (⟨#[98, 101, 103, 105, 110]⟩ : ByteArray), (⟨#[101, 110, 100]⟩ : ByteArray), (⟨#[105, 102]⟩ : ByteArray), (⟨#[116, 104, 101, 110]⟩ : ByteArray), (⟨#[101, 108, 115, 101]⟩ : ByteArray), (⟨#[119, 104, 105, 108, 101]⟩ : ByteArray), (⟨#[100, 111]⟩ : ByteArray), (⟨#[99, 97, 108, 108]⟩ : ByteArray), (⟨#[116, 111]⟩ : ByteArray), (⟨#[112, 114, 105, 110, 116]⟩ : ByteArray), (⟨#[114, 101, 97, 100]⟩ : ByteArray), (⟨#[100, 101, 108, 97, 121]⟩ : ByteArray), (⟨#[99, 111, 110, 116, 105, 110, 117, 101]⟩ : ByteArray), (⟨#[115, 107, 105, 112]⟩ : ByteArray), (⟨#[97, 110, 100]⟩ : ByteArray), (⟨#[111, 114]⟩ : ByteArray), (⟨#[110, 111, 116]⟩ : ByteArray)]
def isKey (s : ByteArray) : Bool := decide (s ∈ keyList)

def isLet (c : Int) : Bool := decide (97 ≤ c ∧ c ≤ 122)
def nameP (s : ByteArray) : Bool := decide (1 ≤ s.size ∧ s.size ≤ 8) && (bs s).all isLet && !isKey s

theorem ev_ite {α : Type} {c : Prop} [Decidable c] {g f : Nat → Option α} {r : α} (h : c → Ev g r) (h' : ¬ c → Ev f r) : Ev (fun n => if c then g n else f n) r :=
  if hc : c then ev_pos hc (h hc) else ev_neg hc (h' hc)
def isV (x : Int) : Bool := decide (1 ≤ x ∧ x ≤ 5)
def isSt (x : Int) : Bool := decide (11 ≤ x ∧ x ≤ 19)
def isB (x : Int) : Bool := decide (x = 20)
/-- The kind of a kid that lies ahead; 0 of any other. -/
def kidK (a : List S77) (k x : Int) : Int := if 0 ≤ x ∧ x ≤ k - 1 then (rdOf z77 a x).f0 else 0
def shapeP (a : List S77) (k t : Int) (ks : List Int) : Bool :=
  if t = 1 ∨ t = 2 ∨ t = 16 ∨ t = 17 ∨ t = 18 ∨ t = 19 then decide ((ks.length : Int) = 0)
  else if t = 3 then decide ((ks.length : Int) = 2) && (ks.take 2).all (fun x => isV (kidK a k x))
  else if t = 4 ∨ t = 5 ∨ t = 11 ∨ t = 14 ∨ t = 15 then decide ((ks.length : Int) = 1) && (ks.take 1).all (fun x => isV (kidK a k x))
  else if t = 12 then decide ((ks.length : Int) = 2 ∨ (ks.length : Int) = 3) && ((ks.take 1).all (fun x => isV (kidK a k x)) && (ks.drop 1).all (fun x => isB (kidK a k x)))
  else if t = 13 then decide ((ks.length : Int) = 2) && ((ks.take 1).all (fun x => isV (kidK a k x)) && (ks.drop 1).all (fun x => isB (kidK a k x)))
  else ks.all (fun x => isSt (kidK a k x)) && decide (1 ≤ (ks.length : Int) ∧ (ks.length : Int) ≤ 12)
def emp (s : ByteArray) : Bool := decide (s.toList = ([] : List UInt8))
def namesP (t num : Int) (name more dest : ByteArray) : Bool :=
  (if t = 2 ∨ t = 11 ∨ t = 16 ∨ t = 17 ∨ t = 18 ∨ t = 14 then nameP name else emp name) &&
  ((if t = 14 then nameP more && (emp dest || nameP dest) else emp more && emp dest) &&
  (if t = 1 then decide (0 ≤ num ∧ num ≤ 1000000) else if t = 3 then decide (1 ≤ num ∧ num ≤ 9) else decide (num = 0)))
def kindP (t : Int) : Bool := isV t || (isSt t || isB t)
/-- Each kid is unlike those ahead of it. -/
def nodupP : List Int → List Int → Bool
  | _, [] => true
  | pre, x :: xs => !decide (x ∈ pre) && nodupP (pre ++ [x]) xs
theorem nodupP_cons (pre : List Int) (x : Int) (xs : List Int) : nodupP pre (x :: xs) = (!decide (x ∈ pre) && nodupP (pre ++ [x]) xs) := rfl
def nodeP (a : List S77) (k : Int) : Bool :=
  if 0 ≤ k ∧ k < a.length then nodupP [] (rdOf z77 a k).f5 && ((kindP (rdOf z77 a k).f0 && shapeP a k (rdOf z77 a k).f0 (rdOf z77 a k).f5) && namesP (rdOf z77 a k).f0 (rdOf z77 a k).f1 (rdOf z77 a k).f2 (rdOf z77 a k).f3 (rdOf z77 a k).f4) else false
/-- What is asked of the nodes: nothing is longer than a machine can hold. -/
def fitN (a : List S77) : Prop := a.length ≤ 1048576 ∧ ∀ x ∈ a, x.f2.size ≤ 1048576 ∧ x.f3.size ≤ 1048576 ∧ x.f4.size ≤ 1048576 ∧ x.f5.length ≤ 1048576
theorem isV_l01 (x : Int) : spec_l05Value.f x = some (isV x) := by
  unfold spec_l05Value.f
  rw [l01In_some]
  rfl
theorem isSt_l01 (x : Int) : spec_l05Statement.f x = some (isSt x) := by
  unfold spec_l05Statement.f
  rw [l01In_some]
  rfl
theorem drop_rd' {l : List Int} {i : Int} (h0 : 0 ≤ i) (h1 : i < l.length) : l.drop i.toNat = rd l i :: l.drop (i + 1).toNat := drop_rd (d := 0) h0 h1

theorem fitN_of (pa : List S113) (h : pa.length ≤ 1048576 ∧ ∀ x ∈ pa, okNode x) : fitN (pa.map cNode) := by
  refine ⟨by rw [List.length_map]; exact h.1, fun x hx => ?_⟩
  obtain ⟨y, hy, rfl⟩ := List.mem_map.1 hx
  exact h.2 y hy

theorem spec_KeyWord_l0 (s : ByteArray) (l : List ByteArray) (hl : l.length ≤ 1000) (n : Nat) : ∀ (i : Int), 0 ≤ i → (l.length : Int) - i = n → Ev (fun k => spec_KeyWord.l0 k s l i) (decide (s ∈ l.drop i.toNat)) := by
  induction n with
  | zero =>
    intro i h0 hi
    refine ev_step ?_
    simp only [spec_KeyWord.l0]
    rw [drop_end h0 (by omega)]
    exact ev_neg (by omega) (ev_eq (by simp) (ev_ret _))
  | succ n ih =>
    intro i h0 hi
    refine ev_step ?_
    simp only [spec_KeyWord.l0]
    refine ev_pos (by omega) (ev_pos h0 ?_)
    rw [drop_rd (d := ByteArray.empty) h0 (by omega)]
    by_cases c : (rdOf ByteArray.empty l i).toList = s.toList
    · refine ev_pos c (ev_eq ?_ (ev_ret _))
      rw [toList_eq_iff] at c
      simp [c]
    · refine ev_neg c ?_
      rw [w64 (x := i + 1) (by omega) (by omega)]
      refine ev_eq ?_ (ih (i + 1) (by omega) (by omega))
      rw [toList_eq_iff] at c
      have c' : ¬ s = rdOf ByteArray.empty l i := fun h => c h.symm
      simp [c']
theorem spec_KeyWord_ev (s : ByteArray) : Ev (fun k => spec_KeyWord.f k s) (isKey s) := by
  unfold spec_KeyWord.f spec_l04Keys.f
  exact ev_bindc (a := keyList) rfl (spec_KeyWord_l0 s keyList (by decide) keyList.length 0 (by omega) (by simp))

theorem spec_NameOk_l0 (s : ByteArray) (hs : s.size ≤ 140737488351232) (n : Nat) : ∀ i : Int, 0 ≤ i → (s.size : Int) - i = n → Ev (fun k => spec_NameOk.l0 k s i) (decide (1 ≤ s.size ∧ s.size ≤ 8) && ((bs s).drop i.toNat).all isLet && !isKey s) := by
  induction n with
  | zero =>
    intro i h0 hn
    refine ev_step ?_
    simp only [spec_NameOk.l0]
    rw [bs_end h0 (by omega), l01In_some]
    refine ev_neg (by omega) (ev_bindc rfl ?_)
    by_cases c : 1 ≤ s.size ∧ s.size ≤ 8
    · exact ev_pos (by simp; omega) (Ev.bind (spec_KeyWord_ev s) (ev_eq (by simp [c]) (ev_ret _)))
    · refine ev_neg (by simp; omega) (ev_eq ?_ (ev_ret _))
      rw [show decide (1 ≤ s.size ∧ s.size ≤ 8) = false by simpa using c]
      rfl
  | succ n ih =>
    intro i h0 hn
    refine ev_step ?_
    simp only [spec_NameOk.l0]
    rw [bs_drop h0 (by omega), List.all_cons]
    refine ev_pos (by omega) (ev_pos h0 ?_)
    by_cases c : bt s i < 97
    · refine ev_pos c (ev_eq ?_ (ev_ret _))
      have : isLet (bt s i) = false := by unfold isLet; simp; omega
      simp [this]
    · refine ev_neg c ?_
      by_cases c2 : bt s i > 122
      · refine ev_pos c2 (ev_eq ?_ (ev_ret _))
        have : isLet (bt s i) = false := by unfold isLet; simp; omega
        simp [this]
      · rw [w64 (x := i + 1) (by omega) (by omega)]
        have : isLet (bt s i) = true := by unfold isLet; simp; omega
        rw [this, Bool.true_and]
        exact ev_neg c2 (ih (i + 1) (by omega) (by omega))
theorem spec_NameOk_ev (s : ByteArray) (hs : s.size ≤ 140737488351232) : Ev (fun k => spec_NameOk.f k s) (nameP s) := by
  unfold spec_NameOk.f
  have h := spec_NameOk_l0 s hs s.size 0 (by omega) (by omega)
  simpa [nameP] using h

theorem l05Kid_some (a : List S77) (b : List S106) (c : List S103) (k i : Int) (h0 : 0 ≤ k) (h1 : k < a.length) (hi0 : 0 ≤ i) (hi1 : i < (rdOf z77 a k).f5.length) (ha : a.length ≤ 1048576) :
    spec_l05Kid.f a b c k i = some (kidK a k (rd (rdOf z77 a k).f5 i)) := by
  unfold spec_l05Kid.f kidK
  have E : ∀ i, rd_T77 a i = rdOf z77 a i := fun _ => rfl
  simp only [E]
  rw [if_pos h0, if_pos h1, if_pos hi0, if_pos hi1, l01In_some, Option.bind_some, w64 (x := k - 1) (by omega) (by omega)]
  show (if decide (0 ≤ rd (rdOf z77 a k).f5 i ∧ rd (rdOf z77 a k).f5 i ≤ k - 1) = true then _ else _) = _
  by_cases c : 0 ≤ rd (rdOf z77 a k).f5 i ∧ rd (rdOf z77 a k).f5 i ≤ k - 1
  · rw [if_pos (by simpa using c), if_pos c]
    rw [if_pos c.1, if_pos (show rd (rdOf z77 a k).f5 i < (a.length : Int) by omega)]
  · rw [if_neg (by simpa using c), if_neg c]
theorem l05Values_l0 (a : List S77) (b : List S106) (c : List S103) (k m : Int) (h0 : 0 ≤ k) (h1 : k < a.length) (hm : m ≤ (rdOf z77 a k).f5.length) (ha : fitN a) (n : Nat) : ∀ i : Int, 0 ≤ i → m - i ≤ n →
    Ev (fun j => spec_l05Values.l0 j k m i a b c) ((((rdOf z77 a k).f5.take m.toNat).drop i.toNat).all (fun x => isV (kidK a k x))) := by
  have hl : (rdOf z77 a k).f5.length ≤ 1048576 := (ha.2 _ (rdOf_mem h0 h1)).2.2.2
  have htl : ((rdOf z77 a k).f5.take m.toNat).length = m.toNat := by
    rw [List.length_take]
    omega
  induction n with
  | zero =>
    intro i hi hn
    refine ev_step ?_
    simp only [spec_l05Values.l0]
    refine ev_neg (by omega) (ev_eq ?_ (ev_ret _))
    rw [List.drop_eq_nil_of_le (by omega)]
    rfl
  | succ n ih =>
    intro i hi hn
    refine ev_step ?_
    simp only [spec_l05Values.l0]
    refine ev_ite (fun c1 => ?_) (fun c1 => ?_)
    · refine ev_bindc (l05Kid_some a b c k i h0 h1 hi (by omega) ha.1) (ev_bindc (isV_l01 _) ?_)
      have hr : ((rdOf z77 a k).f5.take m.toNat).drop i.toNat = rd (rdOf z77 a k).f5 i :: ((rdOf z77 a k).f5.take m.toNat).drop (i + 1).toNat := by
        rw [drop_rd' hi (by omega)]
        congr 1
        unfold rd
        rw [List.getD_eq_getElem?_getD, List.getD_eq_getElem?_getD, List.getElem?_take_of_lt (by omega)]
      rw [hr, List.all_cons]
      refine ev_ite (fun c2 => ?_) (fun c2 => ?_)
      · rw [c2, Bool.true_and, w64 (x := i + 1) (by omega) (by omega)]
        exact ih (i + 1) (by omega) (by omega)
      · rw [Bool.not_eq_true] at c2
        rw [c2]
        exact ev_ret _
    · refine ev_eq ?_ (ev_ret _)
      rw [List.drop_eq_nil_of_le (by omega)]
      rfl
theorem l05Values_ev (a : List S77) (b : List S106) (c : List S103) (k m : Int) (h0 : 0 ≤ k) (h1 : k < a.length) (hm0 : 0 ≤ m) (hm : m ≤ (rdOf z77 a k).f5.length) (ha : fitN a) :
    Ev (fun j => spec_l05Values.f j a b c k m) (((rdOf z77 a k).f5.take m.toNat).all (fun x => isV (kidK a k x))) := by
  unfold spec_l05Values.f
  exact l05Values_l0 a b c k m h0 h1 hm ha m.toNat 0 (by omega) (by omega)
theorem l05Blocks_l0 (a : List S77) (b : List S106) (c : List S103) (k : Int) (h0 : 0 ≤ k) (h1 : k < a.length) (ha : fitN a) (n : Nat) : ∀ i : Int, 0 ≤ i → ((rdOf z77 a k).f5.length : Int) - i ≤ n →
    Ev (fun j => spec_l05Blocks.l0 j k i a b c) (((rdOf z77 a k).f5.drop i.toNat).all (fun x => isB (kidK a k x))) := by
  have hl : (rdOf z77 a k).f5.length ≤ 1048576 := (ha.2 _ (rdOf_mem h0 h1)).2.2.2
  induction n with
  | zero =>
    intro i hi hn
    refine ev_step ?_
    simp only [spec_l05Blocks.l0]
    refine ev_pos h0 (ev_pos h1 (ev_neg (by show ¬ i < ((rdOf z77 a k).f5.length : Int); omega) (ev_eq ?_ (ev_ret _))))
    rw [List.drop_eq_nil_of_le (by omega)]
    rfl
  | succ n ih =>
    intro i hi hn
    refine ev_step ?_
    simp only [spec_l05Blocks.l0]
    refine ev_pos h0 (ev_pos h1 (ev_ite (fun c1 => ?_) (fun c1 => ?_)))
    · have c1 : i < ((rdOf z77 a k).f5.length : Int) := c1
      refine ev_bindc (l05Kid_some a b c k i h0 h1 hi (by omega) ha.1) ?_
      rw [drop_rd' hi (by omega), List.all_cons]
      refine ev_ite (fun c2 => ?_) (fun c2 => ?_)
      · rw [show isB (kidK a k (rd (rdOf z77 a k).f5 i)) = true from decide_eq_true c2, Bool.true_and, w64 (x := i + 1) (by omega) (by omega)]
        exact ih (i + 1) (by omega) (by omega)
      · rw [show isB (kidK a k (rd (rdOf z77 a k).f5 i)) = false from decide_eq_false c2]
        exact ev_ret _
    · have c1 : ¬ i < ((rdOf z77 a k).f5.length : Int) := c1
      refine ev_eq ?_ (ev_ret _)
      rw [List.drop_eq_nil_of_le (by omega)]
      rfl
theorem l05Blocks_ev (a : List S77) (b : List S106) (c : List S103) (k m : Int) (h0 : 0 ≤ k) (h1 : k < a.length) (hm0 : 0 ≤ m) (ha : fitN a) :
    Ev (fun j => spec_l05Blocks.f j a b c k m) (((rdOf z77 a k).f5.drop m.toNat).all (fun x => isB (kidK a k x))) := by
  unfold spec_l05Blocks.f
  exact l05Blocks_l0 a b c k h0 h1 ha (rdOf z77 a k).f5.length m (by omega) (by omega)
theorem l05Kids_l0 (a : List S77) (b : List S106) (c : List S103) (k m : Int) (h0 : 0 ≤ k) (h1 : k < a.length) (hm : m = (rdOf z77 a k).f5.length) (ha : fitN a) (n : Nat) : ∀ i : Int, 0 ≤ i → ((rdOf z77 a k).f5.length : Int) - i ≤ n →
    Ev (fun j => spec_l05Kids.l0 j k m i a b c) (((rdOf z77 a k).f5.drop i.toNat).all (fun x => isSt (kidK a k x)) && decide (1 ≤ m ∧ m ≤ 12)) := by
  have hl : (rdOf z77 a k).f5.length ≤ 1048576 := (ha.2 _ (rdOf_mem h0 h1)).2.2.2
  induction n with
  | zero =>
    intro i hi hn
    refine ev_step ?_
    simp only [spec_l05Kids.l0]
    refine ev_neg (by omega) (ev_bindc (l01In_some _ _ _) (ev_eq ?_ (ev_ret _)))
    rw [List.drop_eq_nil_of_le (by omega)]
    rfl
  | succ n ih =>
    intro i hi hn
    refine ev_step ?_
    simp only [spec_l05Kids.l0]
    refine ev_ite (fun c1 => ?_) (fun c1 => ?_)
    · refine ev_bindc (l05Kid_some a b c k i h0 h1 hi (by omega) ha.1) (ev_bindc (isSt_l01 _) ?_)
      rw [drop_rd' hi (by omega), List.all_cons]
      refine ev_ite (fun c2 => ?_) (fun c2 => ?_)
      · rw [c2, Bool.true_and, w64 (x := i + 1) (by omega) (by omega)]
        exact ih (i + 1) (by omega) (by omega)
      · rw [Bool.not_eq_true] at c2
        rw [c2]
        exact ev_ret _
    · refine ev_bindc (l01In_some _ _ _) (ev_eq ?_ (ev_ret _))
      rw [List.drop_eq_nil_of_le (by omega)]
      rfl
theorem l05Kids_j1 (a : List S77) (b : List S106) (c : List S103) (k m t : Int) (x38 : Bool) (h0 : 0 ≤ k) (h1 : k < a.length) (hm : m = (rdOf z77 a k).f5.length) (ha : fitN a) (hx : x38 = decide (t = 4 ∨ t = 5 ∨ t = 11 ∨ t = 14 ∨ t = 15))
    (ht : ¬ (t = 1 ∨ t = 2 ∨ t = 16 ∨ t = 17 ∨ t = 18 ∨ t = 19)) (ht3 : ¬ t = 3) :
    Ev (fun j => spec_l05Kids.j1 j k m t x38 a b c) (shapeP a k t (rdOf z77 a k).f5) := by
  have V := fun (q : Int) (h : 0 ≤ q) (h' : q ≤ (rdOf z77 a k).f5.length) => l05Values_ev a b c k q h0 h1 h h' ha
  have B := l05Blocks_ev a b c k 1 h0 h1 (by omega) ha
  refine ev_step ?_
  simp only [spec_l05Kids.j1]
  unfold shapeP
  rw [if_neg ht, if_neg ht3, ← hm]
  refine ev_ite (fun c1 => ?_) (fun c1 => ?_)
  · rw [if_pos (of_decide_eq_true (hx ▸ c1))]
    refine ev_ite (fun c2 => ?_) (fun c2 => ?_)
    · rw [show decide (m = 1) = true from decide_eq_true c2, Bool.true_and]
      exact Ev.bind (V 1 (by omega) (by omega)) (ev_ret _)
    · rw [show decide (m = 1) = false from decide_eq_false c2]
      exact ev_ret _
  · rw [if_neg (fun h => c1 (hx.trans (decide_eq_true h)))]
    refine ev_ite (fun c2 => ?_) (fun c2 => ?_)
    · rw [if_pos c2]
      refine ev_ite (fun c3 => ?_) (fun c3 => ?_)
      · rw [show decide (m = 2 ∨ m = 3) = true from decide_eq_true (.inl c3), Bool.true_and]
        refine Ev.bind (V 1 (by omega) (by omega)) (ev_ite (fun c4 => ?_) (fun c4 => ?_))
        · refine Ev.bind B (ev_eq ?_ (ev_ret _))
          rw [show (List.take 1 (rdOf z77 a k).f5).all _ = true from c4]
          rfl
        · refine ev_eq ?_ (ev_ret _)
          rw [Bool.not_eq_true] at c4
          rw [show (List.take 1 (rdOf z77 a k).f5).all _ = false from c4]
          rfl
      · refine ev_ite (fun c5 => ?_) (fun c5 => ?_)
        · rw [show decide (m = 2 ∨ m = 3) = true from decide_eq_true (.inr c5), Bool.true_and]
          refine Ev.bind (V 1 (by omega) (by omega)) (ev_ite (fun c4 => ?_) (fun c4 => ?_))
          · refine Ev.bind B (ev_eq ?_ (ev_ret _))
            rw [show (List.take 1 (rdOf z77 a k).f5).all _ = true from c4]
            rfl
          · refine ev_eq ?_ (ev_ret _)
            rw [Bool.not_eq_true] at c4
            rw [show (List.take 1 (rdOf z77 a k).f5).all _ = false from c4]
            rfl
        · rw [show decide (m = 2 ∨ m = 3) = false from decide_eq_false (by omega)]
          exact ev_ret _
    · rw [if_neg c2]
      refine ev_ite (fun c3 => ?_) (fun c3 => ?_)
      · rw [if_pos c3]
        refine ev_ite (fun c5 => ?_) (fun c5 => ?_)
        · rw [show decide (m = 2) = true from decide_eq_true c5, Bool.true_and]
          refine Ev.bind (V 1 (by omega) (by omega)) (ev_ite (fun c4 => ?_) (fun c4 => ?_))
          · refine Ev.bind B (ev_eq ?_ (ev_ret _))
            rw [show (List.take 1 (rdOf z77 a k).f5).all _ = true from c4]
            rfl
          · refine ev_eq ?_ (ev_ret _)
            rw [Bool.not_eq_true] at c4
            rw [show (List.take 1 (rdOf z77 a k).f5).all _ = false from c4]
            rfl
        · rw [show decide (m = 2) = false from decide_eq_false c5]
          exact ev_ret _
      · rw [if_neg c3]
        exact l05Kids_l0 a b c k m h0 h1 hm ha (rdOf z77 a k).f5.length 0 (by omega) (by omega)
theorem l05Kids_j0 (a : List S77) (b : List S106) (c : List S103) (k m t : Int) (x20 : Bool) (h0 : 0 ≤ k) (h1 : k < a.length) (hm : m = (rdOf z77 a k).f5.length) (ha : fitN a) (hx : x20 = decide (t = 1 ∨ t = 2 ∨ t = 16 ∨ t = 17 ∨ t = 18 ∨ t = 19)) :
    Ev (fun j => spec_l05Kids.j0 j k m t x20 a b c) (shapeP a k t (rdOf z77 a k).f5) := by
  refine ev_step ?_
  simp only [spec_l05Kids.j0]
  refine ev_ite (fun c1 => ?_) (fun c1 => ?_)
  · refine ev_eq ?_ (ev_ret _)
    unfold shapeP
    rw [if_pos (of_decide_eq_true (hx ▸ c1)), ← hm]
    rfl
  · have ht : ¬ (t = 1 ∨ t = 2 ∨ t = 16 ∨ t = 17 ∨ t = 18 ∨ t = 19) := fun h => c1 (hx.trans (decide_eq_true h))
    refine ev_ite (fun c2 => ?_) (fun c2 => ?_)
    · unfold shapeP
      rw [if_neg ht, if_pos c2, ← hm]
      refine ev_ite (fun c3 => ?_) (fun c3 => ?_)
      · rw [show decide (m = 2) = true from decide_eq_true c3, Bool.true_and]
        exact Ev.bind (l05Values_ev a b c k 2 h0 h1 (by omega) (by omega) ha) (ev_ret _)
      · rw [show decide (m = 2) = false from decide_eq_false c3]
        exact ev_ret _
    · have J := fun (x : Bool) (hx : x = decide (t = 4 ∨ t = 5 ∨ t = 11 ∨ t = 14 ∨ t = 15)) => l05Kids_j1 a b c k m t x h0 h1 hm ha hx ht c2
      refine ev_ite (fun c3 => J _ (by subst c3; rfl)) (fun c3 => ev_ite (fun c4 => J _ (by subst c4; rfl)) (fun c4 => ev_ite (fun c5 => J _ (by subst c5; rfl)) (fun c5 => ev_ite (fun c6 => J _ (by subst c6; rfl)) (fun c6 => J _ ?_))))
      rw [Bool.eq_iff_iff, beq_iff_eq, decide_eq_true_iff]
      omega
theorem l05Kids_ev (a : List S77) (b : List S106) (c : List S103) (k : Int) (h0 : 0 ≤ k) (h1 : k < a.length) (ha : fitN a) :
    Ev (fun j => spec_l05Kids.f j a b c k) (shapeP a k (rdOf z77 a k).f0 (rdOf z77 a k).f5) := by
  have J := fun (x : Bool) (hx : x = decide ((rdOf z77 a k).f0 = 1 ∨ (rdOf z77 a k).f0 = 2 ∨ (rdOf z77 a k).f0 = 16 ∨ (rdOf z77 a k).f0 = 17 ∨ (rdOf z77 a k).f0 = 18 ∨ (rdOf z77 a k).f0 = 19)) => l05Kids_j0 a b c k _ (rdOf z77 a k).f0 x h0 h1 rfl ha hx
  unfold spec_l05Kids.f
  generalize ht : (rdOf z77 a k).f0 = t at J
  have ht' : (rd_T77 a k).f0 = t := ht
  simp only [ht']
  refine ev_pos h0 (ev_pos h1 ?_)
  refine ev_ite (fun c3 => J _ (by subst c3; rfl)) (fun c3 => ev_ite (fun c4 => J _ (by subst c4; rfl)) (fun c4 => ev_ite (fun c5 => J _ (by subst c5; rfl)) (fun c5 => ev_ite (fun c6 => J _ (by subst c6; rfl)) (fun c6 => ev_ite (fun c7 => J _ (by subst c7; rfl)) (fun c7 => J _ ?_)))))
  rw [Bool.eq_iff_iff, beq_iff_eq, decide_eq_true_iff]
  omega
theorem spec_NodeOk_j5 (t num : Int) (s2 s3 s4 : ByteArray) (ks : List Int) :
    Ev (fun j => spec_NodeOk.j5 j t num s2 s3 s4 ks) (if t = 1 then decide (0 ≤ num ∧ num ≤ 1000000) else if t = 3 then decide (1 ≤ num ∧ num ≤ 9) else decide (num = 0)) := by
  refine ev_step ?_
  simp only [spec_NodeOk.j5]
  refine ev_ite (fun c1 => ?_) (fun c1 => ?_)
  · rw [if_pos c1]
    exact ev_bindc (l01In_some _ _ _) (ev_ret _)
  · rw [if_neg c1]
    refine ev_ite (fun c2 => ?_) (fun c2 => ?_)
    · rw [if_pos c2]
      exact ev_bindc (l01In_some _ _ _) (ev_ret _)
    · rw [if_neg c2]
      exact ev_ret _
theorem spec_NodeOk_j4 (bad : Bool) (t num : Int) (s2 s3 s4 : ByteArray) (ks : List Int) (h3 : s3.size ≤ 1048576) (h4 : s4.size ≤ 1048576) :
    Ev (fun j => spec_NodeOk.j4 j bad t num s2 s3 s4 ks) (!bad && ((if t = 14 then nameP s3 && (emp s4 || nameP s4) else emp s3 && emp s4) && (if t = 1 then decide (0 ≤ num ∧ num ≤ 1000000) else if t = 3 then decide (1 ≤ num ∧ num ≤ 9) else decide (num = 0)))) := by
  have J := spec_NodeOk_j5 t num s2 s3 s4 ks
  refine ev_step ?_
  simp only [spec_NodeOk.j4]
  refine ev_ite (fun c1 => ?_) (fun c1 => ?_)
  · rw [c1]
    exact ev_ret _
  · rw [show bad = false by simpa using c1, Bool.not_false, Bool.true_and]
    refine ev_ite (fun c2 => ?_) (fun c2 => ?_)
    · rw [if_pos c2]
      refine Ev.bind (spec_NameOk_ev s3 (by omega)) (ev_ite (fun c3 => ?_) (fun c3 => ?_))
      · rw [c3, Bool.true_and]
        refine ev_ite (fun c4 => ?_) (fun c4 => ?_)
        · rw [show emp s4 = true from decide_eq_true c4, Bool.true_or, Bool.true_and]
          exact J
        · rw [show emp s4 = false from decide_eq_false c4, Bool.false_or]
          refine Ev.bind (spec_NameOk_ev s4 (by omega)) (ev_ite (fun c5 => ?_) (fun c5 => ?_))
          · rw [c5, Bool.true_and]
            exact J
          · rw [show nameP s4 = false by simpa using c5]
            exact ev_ret _
      · rw [show nameP s3 = false by simpa using c3]
        exact ev_ret _
    · rw [if_neg c2]
      refine ev_ite (fun c3 => ?_) (fun c3 => ?_)
      · rw [show emp s3 = true from decide_eq_true c3, Bool.true_and]
        refine ev_ite (fun c4 => ?_) (fun c4 => ?_)
        · rw [show emp s4 = true from decide_eq_true c4, Bool.true_and]
          exact J
        · rw [show emp s4 = false from decide_eq_false c4]
          exact ev_ret _
      · rw [show emp s3 = false from decide_eq_false c3]
        exact ev_ret _
theorem spec_NodeOk_j2 (bad : Bool) (t num : Int) (s2 s3 s4 : ByteArray) (ks : List Int) (h2 : s2.size ≤ 1048576) (h3 : s3.size ≤ 1048576) (h4 : s4.size ≤ 1048576) :
    Ev (fun j => spec_NodeOk.j2 j bad t num s2 s3 s4 ks) (!bad && namesP t num s2 s3 s4) := by
  have J := fun x => spec_NodeOk_j4 x t num s2 s3 s4 ks h3 h4
  have K : ∀ x : Bool, x = decide (t = 2 ∨ t = 11 ∨ t = 16 ∨ t = 17 ∨ t = 18 ∨ t = 14) → Ev (fun j => spec_NodeOk.j3 j x t num s2 s3 s4 ks) (namesP t num s2 s3 s4) := by
    intro x hx
    refine ev_step ?_
    simp only [spec_NodeOk.j3]
    unfold namesP
    refine ev_ite (fun c1 => ?_) (fun c1 => ?_)
    · rw [if_pos (of_decide_eq_true (hx ▸ c1))]
      refine Ev.bind (spec_NameOk_ev s2 (by omega)) (ev_ite (fun c3 => ?_) (fun c3 => ?_))
      · rw [c3]
        exact J false
      · rw [show nameP s2 = false by simpa using c3]
        exact J true
    · rw [if_neg (fun h => c1 (hx.trans (decide_eq_true h)))]
      refine ev_eq ?_ (J _)
      rw [show (!(s2.toList != ([] : List UInt8))) = emp s2 by unfold emp; rw [Bool.eq_iff_iff]; simp]
  refine ev_step ?_
  simp only [spec_NodeOk.j2]
  refine ev_ite (fun c1 => ?_) (fun c1 => ?_)
  · rw [c1]
    exact ev_ret _
  · rw [show bad = false by simpa using c1, Bool.not_false, Bool.true_and]
    refine ev_ite (fun c3 => K _ (by subst c3; rfl)) (fun c3 => ev_ite (fun c4 => K _ (by subst c4; rfl)) (fun c4 => ev_ite (fun c5 => K _ (by subst c5; rfl)) (fun c5 => ev_ite (fun c6 => K _ (by subst c6; rfl)) (fun c6 => ev_ite (fun c7 => K _ (by subst c7; rfl)) (fun c7 => K _ ?_)))))
    rw [Bool.eq_iff_iff, beq_iff_eq, decide_eq_true_iff]
    omega
theorem spec_NodeOk_l1 (a : List S77) (b : List S106) (c : List S103) (k t num : Int) (s2 s3 s4 : ByteArray) (ks : List Int) (hl : ks.length ≤ 1048576) (i : Int) (hi : 0 ≤ i) (hi1 : i < ks.length) (r : Bool)
    (hnext : Ev (fun j => spec_NodeOk.l0 j k (i + 1) a b c t num s2 s3 s4 ks) r) (n : Nat) : ∀ q : Int, 0 ≤ q → i - q ≤ n →
    Ev (fun j => spec_NodeOk.l1 j k i q a b c t num s2 s3 s4 ks) (!decide (rd ks i ∈ (ks.take i.toNat).drop q.toNat) && r) := by
  have htl : (ks.take i.toNat).length = i.toNat := by
    rw [List.length_take]
    omega
  have fin : Ev (fun j => spec_NodeOk.l0 j k (wrap64 (i + 1)) a b c t num s2 s3 s4 ks) r := by
    rw [w64 (x := i + 1) (by omega) (by omega)]
    exact hnext
  induction n with
  | zero =>
    intro q hq hn
    refine ev_step ?_
    simp only [spec_NodeOk.l1]
    refine ev_neg (by omega) ?_
    rw [List.drop_eq_nil_of_le (by omega)]
    simpa using fin
  | succ n ih =>
    intro q hq hn
    refine ev_step ?_
    simp only [spec_NodeOk.l1]
    refine ev_ite (fun c1 => ?_) (fun c1 => ?_)
    · refine ev_pos hi (ev_pos hi1 (ev_pos hq (ev_pos (by omega) ?_)))
      have hr : (ks.take i.toNat).drop q.toNat = rd ks q :: (ks.take i.toNat).drop (q + 1).toNat := by
        rw [drop_rd' hq (by omega)]
        congr 1
        unfold rd
        rw [List.getD_eq_getElem?_getD, List.getD_eq_getElem?_getD, List.getElem?_take_of_lt (by omega)]
      rw [hr]
      refine ev_ite (fun c2 => ?_) (fun c2 => ?_)
      · refine ev_eq ?_ (ev_ret _)
        rw [decide_eq_true (show rd ks i ∈ rd ks q :: (ks.take i.toNat).drop (q + 1).toNat by rw [c2]; exact List.mem_cons_self ..)]
        rfl
      · rw [w64 (x := q + 1) (by omega) (by omega)]
        refine ev_eq ?_ (ih (q + 1) (by omega) (by omega))
        congr 2
        rw [decide_eq_decide, List.mem_cons]
        exact ⟨.inr, fun h => h.resolve_left c2⟩
    · rw [List.drop_eq_nil_of_le (by omega)]
      simpa using fin
theorem spec_NodeOk_l0 (a : List S77) (b : List S106) (c : List S103) (k : Int) (h0 : 0 ≤ k) (h1 : k < a.length) (ha : fitN a) (n : Nat) : ∀ i : Int, 0 ≤ i → ((rdOf z77 a k).f5.length : Int) - i = n →
    Ev (fun j => spec_NodeOk.l0 j k i a b c (rdOf z77 a k).f0 (rdOf z77 a k).f1 (rdOf z77 a k).f2 (rdOf z77 a k).f3 (rdOf z77 a k).f4 (rdOf z77 a k).f5)
      (nodupP ((rdOf z77 a k).f5.take i.toNat) ((rdOf z77 a k).f5.drop i.toNat) && ((kindP (rdOf z77 a k).f0 && shapeP a k (rdOf z77 a k).f0 (rdOf z77 a k).f5) && namesP (rdOf z77 a k).f0 (rdOf z77 a k).f1 (rdOf z77 a k).f2 (rdOf z77 a k).f3 (rdOf z77 a k).f4)) := by
  obtain ⟨g2, g3, g4, hl⟩ := ha.2 _ (rdOf_mem h0 h1)
  have S := l05Kids_ev a b c k h0 h1 ha
  have J := fun x => spec_NodeOk_j2 x (rdOf z77 a k).f0 (rdOf z77 a k).f1 (rdOf z77 a k).f2 (rdOf z77 a k).f3 (rdOf z77 a k).f4 (rdOf z77 a k).f5 g2 g3 g4
  generalize shapeP a k (rdOf z77 a k).f0 (rdOf z77 a k).f5 = sh at S ⊢
  generalize (rdOf z77 a k).f0 = t at S J ⊢
  generalize (rdOf z77 a k).f1 = num at J ⊢
  generalize (rdOf z77 a k).f2 = s2 at J ⊢
  generalize (rdOf z77 a k).f3 = s3 at J ⊢
  generalize (rdOf z77 a k).f4 = s4 at J ⊢
  generalize (rdOf z77 a k).f5 = ks at J hl ⊢
  induction n with
  | zero =>
    intro i hi hn
    refine ev_step ?_
    simp only [spec_NodeOk.l0]
    rw [List.drop_eq_nil_of_le (by omega)]
    refine ev_neg (by omega) (ev_bindc (isV_l01 _) ?_)
    refine ev_ite (fun c1 => ?_) (fun c1 => ?_)
    · refine Ev.bind S (ev_eq ?_ (J _))
      simp [nodupP, kindP, c1]
    · refine ev_bindc (isSt_l01 _) (ev_ite (fun c2 => ?_) (fun c2 => ?_))
      · refine Ev.bind S (ev_eq ?_ (J _))
        simp [nodupP, kindP, c2]
      · refine ev_ite (fun c3 => ?_) (fun c3 => ?_)
        · refine Ev.bind S (ev_eq ?_ (J _))
          simp [nodupP, kindP, isB, c3]
        · refine ev_eq ?_ (J _)
          rw [Bool.not_eq_true] at c1 c2
          simp [nodupP, kindP, isB, c1, c2, c3]
  | succ n ih =>
    intro i hi hn
    refine ev_step ?_
    simp only [spec_NodeOk.l0]
    refine ev_pos (by omega) ?_
    refine ev_eq ?_ (spec_NodeOk_l1 a b c k t num s2 s3 s4 ks hl i hi (by omega) _ (ih (i + 1) (by omega) (by omega)) i.toNat 0 (by omega) (by omega))
    rw [drop_rd' hi (show i < ks.length by omega), take_rd 0 hi (show i < ks.length by omega)]
    rw [nodupP_cons, Int.toNat_zero, List.drop_zero]
    exact (Bool.and_assoc _ _ _).symm
theorem spec_NodeOk_ev (a : List S77) (b : List S106) (c : List S103) (k : Int) (ha : fitN a) : Ev (fun j => spec_NodeOk.f j a b c k) (nodeP a k) := by
  unfold spec_NodeOk.f nodeP
  refine ev_bindc (l01In_some _ _ _) ?_
  have hl := ha.1
  rw [w64 (x := (a.length : Int) - 1) (by omega) (by omega)]
  refine ev_ite (fun c1 => ?_) (fun c1 => ?_)
  · have c2 : 0 ≤ k ∧ k < a.length := by have := of_decide_eq_true c1; omega
    rw [if_pos c2]
    exact ev_pos c2.1 (ev_pos c2.2 (spec_NodeOk_l0 a b c k c2.1 c2.2 ha (rdOf z77 a k).f5.length 0 (by omega) (by omega)))
  · rw [if_neg (fun h => c1 (decide_eq_true (by omega)))]
    exact ev_ret _

/-- How many of the first elements pass a test. -/
def runL (p : Int → Bool) : List Int → Nat
  | [] => 0
  | c :: l => if p c = true then runL p l + 1 else 0
theorem runL_le (p : Int → Bool) : ∀ l, runL p l ≤ l.length
  | [] => Nat.le_refl _
  | c :: l => by
    have := runL_le p l
    unfold runL
    split
    · simp
      omega
    · omega
theorem runL_all (p : Int → Bool) : ∀ l, runL p l = l.length ↔ l.all p = true
  | [] => by simp [runL]
  | c :: l => by
    have h := runL_all p l
    unfold runL
    by_cases g : p c = true
    · rw [if_pos g]
      simp [g, h]
    · rw [if_neg g]
      simp [g]

theorem impl_letter_some (c : Int) : impl_letter.f c = some (isLet c) := by
  unfold impl_letter.f isLet
  by_cases g : c ≥ 97
  · rw [if_pos g]
    simp [g]
  · rw [if_neg g]
    have g' : ¬ 97 ≤ c := g
    simp [g']
theorem run_letter_l0 (s : ByteArray) (hs : s.size ≤ 140737488351232) (n : Nat) : ∀ i : Int, 0 ≤ i → i ≤ s.size → (s.size : Int) - i = n → Ev (fun k => impl_run_impl_letter.l0 k s i) (i + runL isLet ((bs s).drop i.toNat)) := by
  induction n with
  | zero =>
    intro i h0 h1 hn
    refine ev_step ?_
    simp only [impl_run_impl_letter.l0]
    rw [bs_end h0 (by omega)]
    exact ev_neg (by omega) (ev_eq (by simp [runL]) (ev_ret _))
  | succ n ih =>
    intro i h0 h1 hn
    refine ev_step ?_
    simp only [impl_run_impl_letter.l0]
    rw [bs_drop h0 (by omega)]
    refine ev_pos (by omega) (ev_pos h0 (ev_bindc (impl_letter_some _) ?_))
    unfold runL
    by_cases g : isLet (bt s i) = true
    · rw [if_pos g, w64 (x := i + 1) (by omega) (by omega)]
      exact ev_pos g (ev_eq (by omega) (ih (i + 1) (by omega) (by omega) (by omega)))
    · rw [if_neg g]
      exact ev_neg g (ev_eq (by simp) (ev_ret _))
theorem run_letter_ev (s : ByteArray) (hs : s.size ≤ 140737488351232) (i : Int) (h0 : 0 ≤ i) (h1 : i ≤ s.size) : Ev (fun k => impl_run_impl_letter.f k s i) (i + runL isLet ((bs s).drop i.toNat)) :=
  run_letter_l0 s hs _ i h0 h1 (Int.toNat_of_nonneg (by omega)).symm

/-- The first place of a text in a list, counted from j on; -1 without it. -/
def idxT (s : ByteArray) : List ByteArray → Int → Int
  | [], _ => -1
  | y :: l, j => if y = s then j else idxT s l (j + 1)
theorem idxT_mem (s : ByteArray) : ∀ (l : List ByteArray) (j : Int), 0 ≤ j → (idxT s l j ≥ 0 ↔ s ∈ l)
  | [], j, _ => by simp [idxT]
  | y :: l, j, h => by
    unfold idxT
    by_cases c : y = s
    · rw [if_pos c]
      simp [c, h]
    · rw [if_neg c, idxT_mem s l (j + 1) (by omega)]
      have c' : ¬ s = y := fun h => c h.symm
      simp [c']
theorem slices_Index_l0 (l : List ByteArray) (s : ByteArray) (hl : l.length ≤ 140737488351232) (n : Nat) : ∀ (i : Int), 0 ≤ i → (l.length : Int) - i = n → Ev (fun k => slices_Index_string_string.l0 k l s (l.length : Int) i) (idxT s (l.drop i.toNat) i) := by
  induction n with
  | zero =>
    intro i h0 hi
    refine ev_step ?_
    simp only [slices_Index_string_string.l0]
    rw [drop_end h0 (by omega)]
    exact ev_neg (by omega) (ev_ret _)
  | succ n ih =>
    intro i h0 hi
    refine ev_step ?_
    simp only [slices_Index_string_string.l0]
    refine ev_pos (by omega) (ev_pos h0 (ev_pos (by omega) ?_))
    rw [drop_rd (d := ByteArray.empty) h0 (by omega)]
    unfold idxT
    by_cases c : s.toList = (rdOf ByteArray.empty l i).toList
    · refine ev_pos c (ev_eq ?_ (ev_ret _))
      rw [toList_eq_iff] at c
      rw [if_pos c.symm]
    · refine ev_neg c ?_
      rw [w64 (x := i + 1) (by omega) (by omega)]
      refine ev_eq ?_ (ih (i + 1) (by omega) (by omega))
      rw [toList_eq_iff] at c
      rw [if_neg (fun h => c h.symm)]
theorem slices_Index_ev (l : List ByteArray) (s : ByteArray) (hl : l.length ≤ 140737488351232) : Ev (fun k => slices_Index_string_string.f k l s) (idxT s l 0) :=
  slices_Index_l0 l s hl l.length 0 (by omega) (by omega)

theorem slices_Contains_ev (l : List ByteArray) (s : ByteArray) (hl : l.length ≤ 140737488351232) : Ev (fun k => slices_Contains_string_string.f k l s) (decide (s ∈ l)) := by
  unfold slices_Contains_string_string.f
  refine Ev.bind (slices_Index_ev l s hl) (ev_eq ?_ (ev_ret _))
  rw [decide_eq_decide]
  exact idxT_mem s l 0 (by omega)

theorem impl_KeyWord_ev (s : ByteArray) : Ev (fun k => impl_KeyWord.f k s) (isKey s) := by
  unfold impl_KeyWord.f
  exact Ev.bind (slices_Contains_ev keyList s (by decide)) (ev_ret _)

theorem impl_NameOk_ev (s : ByteArray) (hs : s.size ≤ 140737488351232) : Ev (fun k => impl_NameOk.f k s) (nameP s) := by
  unfold impl_NameOk.f
  rw [within_some]
  refine ev_bindc rfl ?_
  have hl := bs_length s
  have ha := runL_all isLet (bs s)
  have hr := run_letter_ev s hs 0 (by omega) (by omega)
  simp only [Int.toNat_zero, List.drop_zero, Int.zero_add] at hr
  unfold nameP
  by_cases c : 1 ≤ s.size ∧ s.size ≤ 8
  · refine ev_pos (by simp; omega) (Ev.bind hr ?_)
    by_cases c2 : (bs s).all isLet = true
    · refine ev_pos ?_ (Ev.bind (impl_KeyWord_ev s) (ev_eq ?_ (ev_ret _)))
      · have := ha.2 c2
        omega
      · simp only [c2, Bool.and_true]
        simp [c]
    · refine ev_neg ?_ (ev_eq ?_ (ev_ret _))
      · intro h
        exact c2 (ha.1 (by omega))
      · have c3 : (bs s).all isLet = false := by simpa using c2
        rw [c3]
        simp
  · refine ev_neg (by simp; omega) (ev_eq ?_ (ev_ret _))
    rw [show decide (1 ≤ s.size ∧ s.size ≤ 8) = false by simpa using c]
    rfl

theorem isNode_some (a : List S77) (b : List S106) (c : List S103) (x : Int) (ha : a.length ≤ 1048576) : impl_isNode.f a b c x = some (decide (0 ≤ x ∧ x < a.length)) := by
  unfold impl_isNode.f
  rw [within_some, Option.bind_some, w64 (x := (a.length : Int) - 1) (by omega) (by omega), Option.some.injEq, decide_eq_decide]
  omega
theorem isKind_go {a : List S77} {x : Int} (h0 : 0 ≤ x) (h1 : x < a.length) (f : Option Bool) (g : Option Bool) (r : Bool) (h : f = some r) :
    (if decide (0 ≤ x ∧ x < (a.length : Int)) = true then (if 0 ≤ x then (if x < (a.length : Int) then f else none) else none) else g) = some r := by
  rw [if_pos (decide_eq_true ⟨h0, h1⟩), if_pos h0, if_pos h1, h]
theorem isValue_some (a : List S77) (b : List S106) (c : List S103) (x : Int) (ha : a.length ≤ 1048576) (h0 : 0 ≤ x) (h1 : x < a.length) : impl_isValue.f a b c x = some (isV (rdOf z77 a x).f0) := by
  unfold impl_isValue.f
  rw [isNode_some a b c x ha, Option.bind_some]
  refine isKind_go h0 h1 _ _ _ ?_
  rw [within_some, Option.bind_some]
  rfl
theorem isBlock_some (a : List S77) (b : List S106) (c : List S103) (x : Int) (ha : a.length ≤ 1048576) (h0 : 0 ≤ x) (h1 : x < a.length) : impl_isBlock.f a b c x = some (isB (rdOf z77 a x).f0) := by
  unfold impl_isBlock.f
  rw [isNode_some a b c x ha, Option.bind_some]
  refine isKind_go h0 h1 _ _ _ ?_
  rw [Option.some.injEq, Bool.eq_iff_iff, beq_iff_eq]
  unfold isB
  rw [decide_eq_true_iff]
  rfl
theorem isStatement_some (a : List S77) (b : List S106) (c : List S103) (x : Int) (ha : a.length ≤ 1048576) (h0 : 0 ≤ x) (h1 : x < a.length) : impl_isStatement.f a b c x = some (isSt (rdOf z77 a x).f0) := by
  unfold impl_isStatement.f
  rw [isNode_some a b c x ha, Option.bind_some]
  refine isKind_go h0 h1 _ _ _ ?_
  rw [within_some, Option.bind_some]
  rfl
/-- Kids that lie ahead of a node. -/
def ahead (k : Int) (ks : List Int) : Prop := ∀ x ∈ ks, 0 ≤ x ∧ x ≤ k - 1
/-- The kids from place i on, values as long as the place is below v, blocks behind. -/
def okFrom (a : List S77) (k v : Int) : List Int → Int → Bool
  | [], _ => true
  | x :: xs, i => (if i < v then isV (kidK a k x) else isB (kidK a k x)) && okFrom a k v xs (i + 1)
theorem kidsOk_l1 (a : List S77) (b : List S106) (c : List S103) (k v m : Int) (ks : List Int) (hk : k < a.length) (ha : a.length ≤ 1048576) (hl : ks.length ≤ 1048576) (hm : m = ks.length) (hA : ahead k ks) (n : Nat) : ∀ i : Int, 0 ≤ i → (ks.length : Int) - i = n →
    Ev (fun j => impl_kidsOk.l1 j v ks m i a b c) (okFrom a k v (ks.drop i.toNat) i) := by
  induction n with
  | zero =>
    intro i hi hn
    refine ev_step ?_
    simp only [impl_kidsOk.l1]
    refine ev_neg (by omega) (ev_eq ?_ (ev_ret _))
    rw [List.drop_eq_nil_of_le (by omega)]
    rfl
  | succ n ih =>
    intro i hi hn
    refine ev_step ?_
    simp only [impl_kidsOk.l1]
    have hr := hA _ (rdOf_mem (d := 0) (l := ks) (i := i) hi (by omega))
    have hr0 : 0 ≤ rd ks i := hr.1
    have hr1 : rd ks i ≤ k - 1 := hr.2
    have hk1 : kidK a k (rd ks i) = (rdOf z77 a (rd ks i)).f0 := if_pos ⟨hr0, hr1⟩
    have next := ih (i + 1) (by omega) (by omega)
    have fin : Ev (fun j => impl_kidsOk.l1 j v ks m (wrap64 (i + 1)) a b c) (okFrom a k v (ks.drop (i + 1).toNat) (i + 1)) := by
      rw [w64 (x := i + 1) (by omega) (by omega)]
      exact next
    rw [drop_rd' hi (show i < ks.length by omega)]
    unfold okFrom
    rw [hk1]
    refine ev_pos (by omega) (ev_pos hi (ev_pos (by omega) (ev_ite (fun c1 => ?_) (fun c1 => ?_))))
    · rw [if_pos c1]
      refine ev_bindc (isValue_some a b c _ ha hr0 (by omega)) (ev_ite (fun c2 => ?_) (fun c2 => ?_))
      · rw [c2, Bool.true_and]
        exact ev_neg (by omega) fin
      · rw [Bool.not_eq_true] at c2
        rw [c2]
        exact ev_ret _
    · rw [if_neg c1]
      refine ev_pos (by omega) (ev_bindc (isBlock_some a b c _ ha hr0 (by omega)) (ev_ite (fun c2 => ?_) (fun c2 => ?_)))
      · rw [c2, Bool.true_and]
        exact fin
      · rw [Bool.not_eq_true] at c2
        rw [c2]
        exact ev_ret _
theorem kidsOk_j2 (a : List S77) (b : List S106) (c : List S103) (k v w : Int) (t num : Int) (s2 s3 s4 : ByteArray) (ks : List Int) (hk : k < a.length) (ha : a.length ≤ 1048576) (hl : ks.length ≤ 1048576) (hA : ahead k ks) (hv : 0 ≤ v ∧ v ≤ 2) (hw : 0 ≤ w ∧ w ≤ 2) :
    Ev (fun j => impl_kidsOk.j2 j v w a b c t num s2 s3 s4 ks) (decide ((ks.length : Int) = v + w) && okFrom a k v ks 0) := by
  refine ev_step ?_
  simp only [impl_kidsOk.j2]
  rw [w64 (x := v + w) (by omega) (by omega)]
  refine ev_ite (fun c1 => ?_) (fun c1 => ?_)
  · rw [decide_eq_true c1, Bool.true_and]
    exact kidsOk_l1 a b c k v _ ks hk ha hl rfl hA ks.length 0 (by omega) (by omega)
  · rw [decide_eq_false c1]
    exact ev_ret _
theorem kidsOk_l0 (a : List S77) (b : List S106) (c : List S103) (k m : Int) (t num : Int) (s2 s3 s4 : ByteArray) (ks : List Int) (hk : k < a.length) (ha : a.length ≤ 1048576) (hl : ks.length ≤ 1048576) (hm : m = ks.length) (hA : ahead k ks) (n : Nat) : ∀ i : Int, 0 ≤ i → (ks.length : Int) - i = n →
    Ev (fun j => impl_kidsOk.l0 j ks m i a b c t num s2 s3 s4 ks) ((ks.drop i.toNat).all (fun x => isSt (kidK a k x)) && decide (1 ≤ (ks.length : Int) ∧ (ks.length : Int) ≤ 12)) := by
  induction n with
  | zero =>
    intro i hi hn
    refine ev_step ?_
    simp only [impl_kidsOk.l0]
    refine ev_neg (by omega) (ev_bindc (within_some _ _ _) (ev_eq ?_ (ev_ret _)))
    rw [List.drop_eq_nil_of_le (by omega)]
    rfl
  | succ n ih =>
    intro i hi hn
    refine ev_step ?_
    simp only [impl_kidsOk.l0]
    have hr := hA _ (rdOf_mem (d := 0) (l := ks) (i := i) hi (by omega))
    have hr0 : 0 ≤ rd ks i := hr.1
    have hr1 : rd ks i ≤ k - 1 := hr.2
    have hk1 : kidK a k (rd ks i) = (rdOf z77 a (rd ks i)).f0 := if_pos ⟨hr0, hr1⟩
    rw [drop_rd' hi (show i < ks.length by omega), List.all_cons, hk1]
    refine ev_pos (by omega) (ev_pos hi (ev_pos (by omega) (ev_bindc (isStatement_some a b c _ ha hr0 (by omega)) (ev_ite (fun c2 => ?_) (fun c2 => ?_)))))
    · rw [c2, Bool.true_and, w64 (x := i + 1) (by omega) (by omega)]
      exact ih (i + 1) (by omega) (by omega)
    · rw [Bool.not_eq_true] at c2
      rw [c2]
      exact ev_ret _
theorem len1 {ks : List Int} (h : (ks.length : Int) = 1) : ∃ x, ks = [x] := by
  match ks, h with
  | [x], _ => exact ⟨x, rfl⟩
  | x :: y :: l, h => simp at h; omega
theorem len2 {ks : List Int} (h : (ks.length : Int) = 2) : ∃ x y, ks = [x, y] := by
  match ks, h with
  | [x, y], _ => exact ⟨x, y, rfl⟩
  | [x], h => simp at h
  | x :: y :: z :: l, h => simp at h; omega
theorem len3 {ks : List Int} (h : (ks.length : Int) = 3) : ∃ x y z, ks = [x, y, z] := by
  match ks, h with
  | [x, y, z], _ => exact ⟨x, y, z, rfl⟩
  | [x, y], h => simp at h
  | [x], h => simp at h
  | x :: y :: z :: w :: l, h => simp at h; omega
theorem kidsOk_j0 (a : List S77) (b : List S106) (c : List S103) (k : Int) (t num : Int) (x15 : Bool) (s2 s3 s4 : ByteArray) (ks : List Int) (hk : k < a.length) (ha : a.length ≤ 1048576) (hl : ks.length ≤ 1048576) (hA : ahead k ks)
    (hx : x15 = decide (t = 4 ∨ t = 5 ∨ t = 11 ∨ t = 14 ∨ t = 15)) (h3 : ¬ t = 3) (hK : kindP t = true) :
    Ev (fun j => impl_kidsOk.j0 j 0 0 t x15 a b c t num s2 s3 s4 ks) (shapeP a k t ks) := by
  have J := fun (v w : Int) hv hw => kidsOk_j2 a b c k v w t num s2 s3 s4 ks hk ha hl hA hv hw
  refine ev_step ?_
  simp only [impl_kidsOk.j0]
  unfold shapeP
  refine ev_ite (fun c1 => ?_) (fun c1 => ?_)
  · have ht := of_decide_eq_true (hx ▸ c1)
    rw [if_neg (by omega), if_neg h3, if_pos ht]
    refine ev_eq ?_ (J 1 0 (by omega) (by omega))
    by_cases e : (ks.length : Int) = 1
    · obtain ⟨x, rfl⟩ := len1 e
      simp [okFrom]
    · rw [decide_eq_false (by omega), decide_eq_false e]
      rfl
  · have ht : ¬ (t = 4 ∨ t = 5 ∨ t = 11 ∨ t = 14 ∨ t = 15) := fun h => c1 (hx.trans (decide_eq_true h))
    refine ev_ite (fun c2 => ?_) (fun c2 => ?_)
    · rw [if_neg (by omega), if_neg h3, if_neg ht, if_pos c2, w64 (x := (ks.length : Int) - 1) (by omega) (by omega)]
      refine ev_bindc (within_some _ _ _) (ev_ite (fun c3 => ?_) (fun c3 => ?_))
      · have c4 := of_decide_eq_true c3
        refine ev_eq ?_ (J 1 ((ks.length : Int) - 1) (by omega) (by omega))
        rw [decide_eq_true (show (ks.length : Int) = 1 + ((ks.length : Int) - 1) by omega)]
        by_cases e : (ks.length : Int) = 2
        · obtain ⟨x, y, rfl⟩ := len2 e
          simp [okFrom]
        · obtain ⟨x, y, z, rfl⟩ := len3 (show (ks.length : Int) = 3 by omega)
          simp [okFrom]
      · have c4 : ¬ (1 ≤ (ks.length : Int) - 1 ∧ (ks.length : Int) - 1 ≤ 2) := fun h => c3 (decide_eq_true h)
        rw [decide_eq_false (by omega)]
        exact ev_ret _
    · refine ev_ite (fun c3 => ?_) (fun c3 => ?_)
      · rw [if_neg (by omega), if_neg h3, if_neg ht, if_neg c2, if_pos c3]
        refine ev_eq ?_ (J 1 1 (by omega) (by omega))
        by_cases e : (ks.length : Int) = 2
        · obtain ⟨x, y, rfl⟩ := len2 e
          simp [okFrom]
        · rw [decide_eq_false (by omega), decide_eq_false e]
          rfl
      · refine ev_ite (fun c4 => ?_) (fun c4 => ?_)
        · rw [if_neg (by omega), if_neg h3, if_neg ht, if_neg c2, if_neg c3]
          exact kidsOk_l0 a b c k _ t num s2 s3 s4 ks hk ha hl rfl hA ks.length 0 (by omega) (by omega)
        · have hz : t = 1 ∨ t = 2 ∨ t = 16 ∨ t = 17 ∨ t = 18 ∨ t = 19 := by
            unfold kindP isV isSt isB at hK
            simp only [Bool.or_eq_true, decide_eq_true_iff] at hK
            omega
          rw [if_pos hz]
          refine ev_eq ?_ (J 0 0 (by omega) (by omega))
          by_cases e : (ks.length : Int) = 0
          · obtain rfl : ks = [] := List.eq_nil_of_length_eq_zero (by omega)
            simp [okFrom]
          · rw [decide_eq_false (by omega), decide_eq_false e]
            rfl
theorem kidsOk_ev (a : List S77) (b : List S106) (c : List S103) (k : Int) (t num : Int) (s2 s3 s4 : ByteArray) (ks : List Int) (hk : k < a.length) (ha : a.length ≤ 1048576) (hl : ks.length ≤ 1048576) (hA : ahead k ks) (hK : kindP t = true) :
    Ev (fun j => impl_kidsOk.f j a b c t num s2 s3 s4 ks) (shapeP a k t ks) := by
  unfold impl_kidsOk.f
  refine ev_ite (fun c1 => ?_) (fun c1 => ?_)
  · unfold shapeP
    rw [if_neg (by omega), if_pos c1]
    refine ev_eq ?_ (kidsOk_j2 a b c k 2 0 t num s2 s3 s4 ks hk ha hl hA (by omega) (by omega))
    by_cases e : (ks.length : Int) = 2
    · obtain ⟨x, y, rfl⟩ := len2 e
      simp [okFrom]
    · rw [decide_eq_false (by omega), decide_eq_false e]
      rfl
  · have J := fun (x : Bool) hx => kidsOk_j0 a b c k t num x s2 s3 s4 ks hk ha hl hA hx c1 hK
    refine ev_ite (fun c3 => J _ (by subst c3; rfl)) (fun c3 => ev_ite (fun c4 => J _ (by subst c4; rfl)) (fun c4 => ev_ite (fun c5 => J _ (by subst c5; rfl)) (fun c5 => ev_ite (fun c6 => J _ (by subst c6; rfl)) (fun c6 => J _ ?_))))
    rw [Bool.eq_iff_iff, beq_iff_eq, decide_eq_true_iff]
    omega
theorem ev_and {g : Nat → Option Bool} {x p r : Bool} (h : x = p) (k : p = true → Ev g r) : Ev (fun n => if x = true then g n else some false) (p && r) := by
  subst h
  cases x with
  | true => exact k rfl
  | false => exact ev_ret _
theorem ev_andP {g : Nat → Option Bool} {c : Prop} [Decidable c] {r : Bool} (k : c → Ev g r) : Ev (fun n => if c then g n else some false) (decide c && r) := by
  by_cases h : c
  · rw [decide_eq_true h]
    exact ev_pos h (k h)
  · rw [decide_eq_false h]
    exact ev_neg h (ev_ret _)
theorem emp_beq (s : ByteArray) : (s.toList == ([] : List UInt8)) = emp s := by
  unfold emp
  rw [Bool.eq_iff_iff, beq_iff_eq, decide_eq_true_iff]
theorem impl_namesOk_j0 (t num : Int) (x15 : Bool) (s2 s3 s4 : ByteArray) (ks : List Int) (h2 : s2.size ≤ 1048576) (h3 : s3.size ≤ 1048576) (h4 : s4.size ≤ 1048576)
    (hx : x15 = decide (t = 2 ∨ t = 11 ∨ t = 16 ∨ t = 17 ∨ t = 18)) :
    Ev (fun j => impl_namesOk.j0 j false false (emp s4) (num == 0) t x15 t num s2 s3 s4 ks) (namesP t num s2 s3 s4) := by
  have N2 := impl_NameOk_ev s2 (by omega)
  have N3 := impl_NameOk_ev s3 (by omega)
  have N4 := impl_NameOk_ev s4 (by omega)
  have hz : (num == 0) = decide (num = 0) := by rw [Bool.eq_iff_iff, beq_iff_eq, decide_eq_true_iff]
  refine ev_step ?_
  simp only [impl_namesOk.j0]
  rw [emp_beq, hz]
  have last : Ev (fun n => if s2.toList = ([] : List UInt8) then (if false = true then (impl_NameOk.f n s3).bind fun t => if t = true then some true else some false else some (emp s3)) else some false) (emp s2 && emp s3) := ev_andP (fun _ => ev_neg (by simp) (ev_ret _))
  unfold namesP
  refine ev_ite (fun c1 => ?_) (fun c1 => ?_)
  · have ht := of_decide_eq_true (hx ▸ c1)
    rw [if_pos (by omega), if_neg (by omega), if_neg (by omega), if_neg (by omega)]
    refine ev_eq ?_ (ev_and rfl (fun _ => ev_and rfl (fun _ => Ev.bind N2 (ev_and rfl (fun _ => ev_neg (by simp) (ev_ret _))))))
    generalize nameP s2 = A; generalize emp s3 = B; generalize emp s4 = C; generalize decide (num = 0) = D
    cases A <;> cases B <;> cases C <;> cases D <;> rfl
  · have ht : ¬ (t = 2 ∨ t = 11 ∨ t = 16 ∨ t = 17 ∨ t = 18) := fun h => c1 (hx.trans (decide_eq_true h))
    refine ev_ite (fun c2 => ?_) (fun c2 => ?_)
    · rw [if_pos (by omega), if_pos c2, if_neg (by omega), if_neg (by omega)]
      refine ev_ite (fun c3 => ?_) (fun c3 => ?_)
      · refine ev_eq ?_ (ev_and rfl (fun _ => Ev.bind N2 (ev_and rfl (fun _ => Ev.bind N3 (ev_and (r := true) rfl (fun _ => ev_ret _))))))
        rw [c3]
        generalize nameP s2 = A; generalize nameP s3 = B; generalize nameP s4 = C; generalize decide (num = 0) = D
        cases A <;> cases B <;> cases C <;> cases D <;> rfl
      · refine Ev.bind N4 (ev_eq ?_ (ev_and rfl (fun _ => ev_and rfl (fun _ => Ev.bind N2 (ev_and rfl (fun _ => Ev.bind N3 (ev_and (r := true) rfl (fun _ => ev_ret _))))))))
        rw [show emp s4 = false by simpa using c3]
        generalize nameP s2 = A; generalize nameP s3 = B; generalize nameP s4 = C; generalize decide (num = 0) = D
        cases A <;> cases B <;> cases C <;> cases D <;> rfl
    · rw [if_neg (by omega), if_neg c2]
      refine ev_ite (fun c3 => ?_) (fun c3 => ?_)
      · rw [if_pos c3]
        refine ev_bindc (within_some _ _ _) (ev_eq ?_ (ev_and rfl (fun _ => ev_and rfl (fun _ => ev_neg (by simp) last))))
        generalize emp s2 = A; generalize emp s3 = B; generalize emp s4 = C; generalize decide (0 ≤ num ∧ num ≤ 1000000) = D
        cases A <;> cases B <;> cases C <;> cases D <;> rfl
      · rw [if_neg c3]
        refine ev_ite (fun c4 => ?_) (fun c4 => ?_)
        · rw [if_pos c4]
          refine ev_bindc (within_some _ _ _) (ev_eq ?_ (ev_and rfl (fun _ => ev_and rfl (fun _ => ev_neg (by simp) last))))
          generalize emp s2 = A; generalize emp s3 = B; generalize emp s4 = C; generalize decide (1 ≤ num ∧ num ≤ 9) = D
          cases A <;> cases B <;> cases C <;> cases D <;> rfl
        · rw [if_neg c4]
          refine ev_eq ?_ (ev_and rfl (fun _ => ev_and rfl (fun _ => ev_neg (by simp) last)))
          generalize emp s2 = A; generalize emp s3 = B; generalize emp s4 = C; generalize decide (num = 0) = D
          cases A <;> cases B <;> cases C <;> cases D <;> rfl
theorem impl_namesOk_ev (t num : Int) (s2 s3 s4 : ByteArray) (ks : List Int) (h2 : s2.size ≤ 1048576) (h3 : s3.size ≤ 1048576) (h4 : s4.size ≤ 1048576) :
    Ev (fun j => impl_namesOk.f j t num s2 s3 s4 ks) (namesP t num s2 s3 s4) := by
  have J := fun (x : Bool) hx => impl_namesOk_j0 t num x s2 s3 s4 ks h2 h3 h4 hx
  unfold impl_namesOk.f
  rw [emp_beq]
  refine ev_ite (fun c3 => J _ (by subst c3; rfl)) (fun c3 => ev_ite (fun c4 => J _ (by subst c4; rfl)) (fun c4 => ev_ite (fun c5 => J _ (by subst c5; rfl)) (fun c5 => ev_ite (fun c6 => J _ (by subst c6; rfl)) (fun c6 => J _ ?_))))
  rw [Bool.eq_iff_iff, beq_iff_eq, decide_eq_true_iff]
  omega
/-- The first place of a number in a list, counted from j on; -1 without it. -/
def idxI (s : Int) : List Int → Int → Int
  | [], _ => -1
  | y :: l, j => if y = s then j else idxI s l (j + 1)
theorem idxI_mem (s : Int) : ∀ (l : List Int) (j : Int), 0 ≤ j → (idxI s l j ≥ 0 ↔ s ∈ l)
  | [], j, _ => by simp [idxI]
  | y :: l, j, h => by
    unfold idxI
    by_cases c : y = s
    · rw [if_pos c]
      simp [c, h]
    · rw [if_neg c, idxI_mem s l (j + 1) (by omega)]
      have c' : ¬ s = y := fun h => c h.symm
      simp [c']
theorem slices_IndexI_l0 (l : List Int) (s : Int) (hl : l.length ≤ 140737488351232) (n : Nat) : ∀ (i : Int), 0 ≤ i → (l.length : Int) - i = n → Ev (fun k => slices_Index_int_int.l0 k l s (l.length : Int) i) (idxI s (l.drop i.toNat) i) := by
  induction n with
  | zero =>
    intro i h0 hi
    refine ev_step ?_
    simp only [slices_Index_int_int.l0]
    rw [drop_end h0 (by omega)]
    exact ev_neg (by omega) (ev_ret _)
  | succ n ih =>
    intro i h0 hi
    refine ev_step ?_
    simp only [slices_Index_int_int.l0]
    refine ev_pos (by omega) (ev_pos h0 (ev_pos (by omega) ?_))
    rw [drop_rd' h0 (by omega)]
    unfold idxI
    by_cases c : s = rd l i
    · refine ev_pos c (ev_eq ?_ (ev_ret _))
      rw [if_pos c.symm]
    · refine ev_neg c ?_
      rw [w64 (x := i + 1) (by omega) (by omega), if_neg (fun h => c h.symm)]
      exact ih (i + 1) (by omega) (by omega)
theorem slices_ContainsI_ev (l : List Int) (s : Int) (hl : l.length ≤ 140737488351232) : Ev (fun k => slices_Contains_int_int.f k l s) (decide (s ∈ l)) := by
  unfold slices_Contains_int_int.f slices_Index_int_int.f
  refine Ev.bind (slices_IndexI_l0 l s hl l.length 0 (by omega) (by omega)) (ev_eq ?_ (ev_ret _))
  rw [decide_eq_decide]
  exact idxI_mem s l 0 (by omega)
/-- Where a kid does not lie ahead, no shape fits. -/
theorem shape_ahead (a : List S77) (k t : Int) (ks : List Int) (hK : kindP t = true) (h : shapeP a k t ks = true) : ahead k ks := by
  have good : ∀ x : Int, isV (kidK a k x) = true ∨ isB (kidK a k x) = true ∨ isSt (kidK a k x) = true → 0 ≤ x ∧ x ≤ k - 1 := by
    intro x hx
    by_cases c : 0 ≤ x ∧ x ≤ k - 1
    · exact c
    · rw [show kidK a k x = 0 from if_neg c] at hx
      simp [isV, isB, isSt] at hx
  unfold shapeP at h
  split at h
  · obtain rfl : ks = [] := List.eq_nil_of_length_eq_zero (by have := of_decide_eq_true h; omega)
    intro x hx
    cases hx
  · split at h
    · simp only [Bool.and_eq_true, decide_eq_true_iff] at h
      obtain ⟨x, y, rfl⟩ := len2 h.1
      simp at h
      intro z hz
      simp at hz
      rcases hz with rfl | rfl
      · exact good _ (.inl h.1)
      · exact good _ (.inl h.2)
    · split at h
      · simp only [Bool.and_eq_true, decide_eq_true_iff] at h
        obtain ⟨x, rfl⟩ := len1 h.1
        simp at h
        intro z hz
        simp at hz
        subst hz
        exact good _ (.inl h)
      · split at h
        · simp only [Bool.and_eq_true, decide_eq_true_iff] at h
          rcases h.1 with e | e
          · obtain ⟨x, y, rfl⟩ := len2 e
            simp at h
            intro z hz
            simp at hz
            rcases hz with rfl | rfl
            · exact good _ (.inl h.1)
            · exact good _ (.inr (.inl h.2))
          · obtain ⟨x, y, w, rfl⟩ := len3 e
            simp at h
            intro z hz
            simp at hz
            rcases hz with rfl | rfl | rfl
            · exact good _ (.inl h.1)
            · exact good _ (.inr (.inl h.2.1))
            · exact good _ (.inr (.inl h.2.2))
        · split at h
          · simp only [Bool.and_eq_true, decide_eq_true_iff] at h
            obtain ⟨x, y, rfl⟩ := len2 h.1
            simp at h
            intro z hz
            simp at hz
            rcases hz with rfl | rfl
            · exact good _ (.inl h.1)
            · exact good _ (.inr (.inl h.2))
          · simp only [Bool.and_eq_true, List.all_eq_true] at h
            intro z hz
            exact good _ (.inr (.inr (h.1 z hz)))
/-- What the program's loop over the kids tells: from a place on. -/
def kidsP (k : Int) : List Int → List Int → Bool
  | _, [] => true
  | pre, x :: xs => decide (0 ≤ x ∧ x ≤ k - 1) && (!decide (x ∈ pre) && kidsP k (pre ++ [x]) xs)
theorem kidsP_eq (k : Int) : ∀ (xs pre : List Int), kidsP k pre xs = (xs.all (fun x => decide (0 ≤ x ∧ x ≤ k - 1)) && nodupP pre xs)
  | [], pre => rfl
  | x :: xs, pre => by
    unfold kidsP nodupP
    rw [kidsP_eq k xs, List.all_cons]
    generalize decide (0 ≤ x ∧ x ≤ k - 1) = A; generalize decide (x ∈ pre) = B; generalize xs.all _ = C; generalize nodupP (pre ++ [x]) xs = D
    cases A <;> cases B <;> cases C <;> cases D <;> rfl
theorem impl_NodeOk_l0 (a : List S77) (b : List S106) (c : List S103) (k : Int) (h0 : 0 ≤ k) (h1 : k < a.length) (ha : fitN a) (t num : Int) (s2 s3 s4 : ByteArray) (ks : List Int) (hK : kindP t = true) (h2 : s2.size ≤ 1048576) (h3 : s3.size ≤ 1048576) (h4 : s4.size ≤ 1048576) (hl : ks.length ≤ 1048576) (m : Int) (hm : m = ks.length) (n : Nat) :
    ∀ i : Int, 0 ≤ i → (ks.length : Int) - i = n → ahead k (ks.take i.toNat) →
    Ev (fun j => impl_NodeOk.l0 j k ks m i a b c t num s2 s3 s4 ks) (kidsP k (ks.take i.toNat) (ks.drop i.toNat) && (shapeP a k t ks && namesP t num s2 s3 s4)) := by
  have hl0 := ha.1
  induction n with
  | zero =>
    intro i hi hn hA
    refine ev_step ?_
    simp only [impl_NodeOk.l0]
    rw [List.drop_eq_nil_of_le (by omega)]
    rw [List.take_of_length_le (by omega)] at hA ⊢
    rw [show kidsP k ks [] = true from rfl, Bool.true_and]
    exact ev_neg (by omega) (Ev.bind (kidsOk_ev a b c k t num s2 s3 s4 ks h1 ha.1 hl hA hK) (ev_and rfl (fun _ => Ev.bind (impl_namesOk_ev t num s2 s3 s4 ks h2 h3 h4) (ev_ret _))))
  | succ n ih =>
    intro i hi hn hA
    refine ev_step ?_
    simp only [impl_NodeOk.l0]
    rw [drop_rd' hi (show i < ks.length by omega)]
    unfold kidsP
    rw [Bool.and_assoc]
    refine ev_pos (by omega) (ev_pos hi (ev_pos (by omega) ?_))
    rw [w64 (x := k - 1) (by omega) (by omega)]
    refine ev_bindc (within_some _ _ _) (ev_and rfl (fun c1 => ?_))
    have c2 := of_decide_eq_true c1
    rw [Bool.and_assoc]
    refine ev_pos (by omega) (Ev.bind (slices_ContainsI_ev (ks.take i.toNat) (rd ks i) (by rw [List.length_take]; omega)) ?_)
    refine ev_ite (fun c3 => ?_) (fun c3 => ?_)
    · rw [c3]
      exact ev_ret _
    · rw [show decide (rd ks i ∈ ks.take i.toNat) = false by simpa using c3, Bool.not_false, Bool.true_and, w64 (x := i + 1) (by omega) (by omega)]
      have ht := take_rd 0 hi (show i < ks.length by omega)
      have next := ih (i + 1) (by omega) (by omega) (by
        rw [ht]
        intro x hx
        rcases List.mem_append.1 hx with hx | hx
        · exact hA x hx
        · rw [List.mem_singleton.1 hx]
          exact c2)
      rw [ht] at next
      exact next
theorem impl_NodeOk_ev (a : List S77) (b : List S106) (c : List S103) (k : Int) (ha : fitN a) : Ev (fun j => impl_NodeOk.f j a b c k) (nodeP a k) := by
  unfold impl_NodeOk.f nodeP
  refine ev_bindc (isNode_some a b c k ha.1) ?_
  refine ev_ite (fun c1 => ?_) (fun c1 => ?_)
  · have c2 := of_decide_eq_true c1
    rw [if_pos c2]
    obtain ⟨g2, g3, g4, hl⟩ := ha.2 _ (rdOf_mem c2.1 c2.2)
    have L := fun hK => impl_NodeOk_l0 a b c k c2.1 c2.2 ha (rdOf z77 a k).f0 (rdOf z77 a k).f1 (rdOf z77 a k).f2 (rdOf z77 a k).f3 (rdOf z77 a k).f4 (rdOf z77 a k).f5 hK g2 g3 g4 hl _ rfl (rdOf z77 a k).f5.length 0 (by omega) (by omega) (fun x hx => by simp at hx)
    have fin : ∀ hK : kindP (rdOf z77 a k).f0 = true, Ev (fun j => impl_NodeOk.l0 j k (rdOf z77 a k).f5 ((rdOf z77 a k).f5.length : Int) 0 a b c (rdOf z77 a k).f0 (rdOf z77 a k).f1 (rdOf z77 a k).f2 (rdOf z77 a k).f3 (rdOf z77 a k).f4 (rdOf z77 a k).f5)
        (nodupP [] (rdOf z77 a k).f5 && ((kindP (rdOf z77 a k).f0 && shapeP a k (rdOf z77 a k).f0 (rdOf z77 a k).f5) && namesP (rdOf z77 a k).f0 (rdOf z77 a k).f1 (rdOf z77 a k).f2 (rdOf z77 a k).f3 (rdOf z77 a k).f4)) := by
      intro hK
      refine ev_eq ?_ (L hK)
      rw [Int.toNat_zero, List.take_zero, List.drop_zero, kidsP_eq, hK, Bool.true_and]
      cases hs : shapeP a k (rdOf z77 a k).f0 (rdOf z77 a k).f5 with
      | false => simp
      | true =>
        have hA := shape_ahead a k _ _ hK hs
        rw [show (rdOf z77 a k).f5.all (fun x => decide (0 ≤ x ∧ x ≤ k - 1)) = true from List.all_eq_true.2 (fun x hx => decide_eq_true (hA x hx)), Bool.true_and]
    refine ev_pos c2.1 (ev_pos c2.2 (ev_bindc (within_some _ _ _) ?_))
    have J : ∀ x : Bool, x = !kindP (rdOf z77 a k).f0 → Ev (fun j => impl_NodeOk.j0 j k x a b c (rdOf z77 a k).f0 (rdOf z77 a k).f1 (rdOf z77 a k).f2 (rdOf z77 a k).f3 (rdOf z77 a k).f4 (rdOf z77 a k).f5)
        (nodupP [] (rdOf z77 a k).f5 && ((kindP (rdOf z77 a k).f0 && shapeP a k (rdOf z77 a k).f0 (rdOf z77 a k).f5) && namesP (rdOf z77 a k).f0 (rdOf z77 a k).f1 (rdOf z77 a k).f2 (rdOf z77 a k).f3 (rdOf z77 a k).f4)) := by
      intro x hx
      refine ev_step ?_
      simp only [impl_NodeOk.j0]
      refine ev_ite (fun c3 => ?_) (fun c3 => ?_)
      · refine ev_eq ?_ (ev_ret _)
        rw [show kindP (rdOf z77 a k).f0 = false by rw [c3] at hx; simpa using hx.symm]
        simp
      · exact fin (by
          have : x = false := by simpa using c3
          rw [this] at hx
          simpa using hx.symm)
    refine ev_ite (fun c3 => ?_) (fun c3 => ?_)
    · refine J false ?_
      have c4 : isV (rdOf z77 a k).f0 = true := c3
      unfold kindP
      rw [c4]
      rfl
    · refine ev_bindc (within_some _ _ _) (J _ ?_)
      have c5 : ¬ (1 ≤ (rdOf z77 a k).f0 ∧ (rdOf z77 a k).f0 ≤ 5) := fun h => c3 (decide_eq_true h)
      congr 1
      unfold kindP isV isSt isB
      show decide (11 ≤ (rdOf z77 a k).f0 ∧ (rdOf z77 a k).f0 ≤ 20) = _
      rw [Bool.eq_iff_iff]
      simp only [Bool.or_eq_true, decide_eq_true_iff]
      omega
  · rw [if_neg (fun h => c1 (decide_eq_true h))]
    exact ev_ret _

/-- The greatest of m and one more than what the list holds at each of some places. -/
def mxK (l : List Int) : List Int → Int → Int
  | [], m => m
  | x :: xs, m => mxK l xs (mx m (rd l x + 1))
theorem mx_le {a b c : Int} (h1 : a ≤ c) (h2 : b ≤ c) : mx a b ≤ c := by
  unfold mx
  split <;> omega
theorem le_mx (a b : Int) : a ≤ mx a b := by
  unfold mx
  split <;> omega
theorem rd_bound {l : List Int} {c : Int} (h0 : 0 ≤ c) (h : ∀ x ∈ l, 0 ≤ x ∧ x ≤ c) (i : Int) : 0 ≤ rd l i ∧ rd l i ≤ c := by
  unfold rd
  by_cases hi : i.toNat < l.length
  · rw [List.getD_eq_getElem?_getD, List.getElem?_eq_getElem hi]
    exact h _ (List.getElem_mem _)
  · rw [List.getD_eq_getElem?_getD, List.getElem?_eq_none (by omega)]
    exact ⟨Int.le_refl _, h0⟩
theorem mxK_bound {l : List Int} (h : ∀ x ∈ l, 0 ≤ x ∧ x ≤ 10) : ∀ (ks : List Int) (m : Int), m ≤ 11 → mxK l ks m ≤ 11 ∧ m ≤ mxK l ks m
  | [], m, hm => ⟨hm, Int.le_refl _⟩
  | x :: xs, m, hm => by
    have hb := rd_bound (by omega) h x
    obtain ⟨h1, h2⟩ := mxK_bound h xs (mx m (rd l x + 1)) (mx_le hm (by omega))
    have h3 := le_mx m (rd l x + 1)
    exact ⟨h1, Int.le_trans h3 h2⟩
def finK (l : List Int) (n m : Int) : Int := if m > 10 then 0 else if n > 0 ∧ rd l (n - 1) = 0 then 0 else m
def dval (a : List S77) (l : List Int) (n : Int) : Int := if nodeP a n = true then finK l n (mxK l (rdOf z77 a n).f5 1) else 0
/-- How deep the first nodes are. -/
def deepL (a : List S77) : Nat → List Int
  | 0 => []
  | n + 1 => deepL a n ++ [dval a (deepL a n) n]
def deepP (a : List S77) (k : Int) : Int := if 0 ≤ k ∧ k < a.length then dval a (deepL a k.toNat) k else 0
theorem deepL_length (a : List S77) : ∀ n, (deepL a n).length = n
  | 0 => rfl
  | n + 1 => by simp [deepL, deepL_length a n]
theorem dval_bound (a : List S77) (l : List Int) (n : Int) (h : ∀ x ∈ l, 0 ≤ x ∧ x ≤ 10) : 0 ≤ dval a l n ∧ dval a l n ≤ 10 := by
  unfold dval finK
  have := mxK_bound h (rdOf z77 a n).f5 1 (by omega)
  split
  · split
    · omega
    · split <;> omega
  · omega
theorem deepL_bound (a : List S77) : ∀ n, ∀ x ∈ deepL a n, 0 ≤ x ∧ x ≤ 10
  | 0 => fun x hx => by cases hx
  | n + 1 => fun x hx => by
    rcases List.mem_append.1 hx with hx | hx
    · exact deepL_bound a n x hx
    · rw [List.mem_singleton.1 hx]
      exact dval_bound a _ _ (deepL_bound a n)
theorem rd_left {l r : List Int} {i : Int} (h : i.toNat < l.length) : rd (l ++ r) i = rd l i := by
  unfold rd
  rw [List.getD_eq_getElem?_getD, List.getD_eq_getElem?_getD, List.getElem?_append_left h]
theorem rd_at {l r : List Int} {x : Int} {i : Int} (h : i.toNat = l.length) : rd (l ++ x :: r) i = x := by
  unfold rd
  rw [List.getD_eq_getElem?_getD, List.getElem?_append_right (by omega), show i.toNat - l.length = 0 by omega]
  rfl
theorem deepL_rd (a : List S77) (k : Nat) : ∀ n, k < n → rd (deepL a n) k = dval a (deepL a k) k
  | 0, h => by omega
  | n + 1, h => by
    have hl := deepL_length a n
    show rd (deepL a n ++ [dval a (deepL a n) n]) k = dval a (deepL a k) k
    by_cases c : k < n
    · rw [rd_left (by omega)]
      exact deepL_rd a k n c
    · obtain rfl : k = n := by omega
      exact rd_at (show ((k : Nat) : Int).toNat = (deepL a k).length by omega)
/-- Behind a node that is not right none is. -/
theorem dval_dead (a : List S77) (i : Nat) (h : dval a (deepL a i) i = 0) : ∀ n, i ≤ n → dval a (deepL a n) n = 0
  | 0, hn => by
    obtain rfl : i = 0 := by omega
    exact h
  | n + 1, hn => by
    by_cases c : i = n + 1
    · subst c
      exact h
    · have ih := dval_dead a i h n (by omega)
      have hr : rd (deepL a (n + 1)) ((n + 1 : Nat) : Int) = rd (deepL a (n + 1)) ((n + 1 : Nat) : Int) := rfl
      have h1 : rd (deepL a (n + 1)) (((n + 1 : Nat) : Int) - 1) = 0 := by
        rw [show ((n + 1 : Nat) : Int) - 1 = (n : Int) by omega, deepL_rd a n (n + 1) (by omega)]
        exact ih
      unfold dval
      split
      · unfold finK
        split
        · rfl
        · rw [if_pos ⟨by omega, h1⟩]
      · rfl
theorem spec_deeps_fin (a : List S77) (b : List S106) (c : List S103) (out : List Int) (n m : Int) (r : List Int) (hl : (out.length : Int) = n) (hb : n ≤ 1048576)
    (hnext : Ev (fun k => spec_l05Deeps.l0 k (out ++ [finK out n m]) (n + 1) a b c) r) (hm : 1 ≤ m ∧ m ≤ 11) :
    Ev (fun k => if m > 10 then (if out.length < 17592186044416 then (spec_l05Deeps.l0 k (out ++ [0]) (wrap64 (n + 1)) a b c) else (none)) else (if n > 0 then (if 0 ≤ (wrap64 (n - 1)) then (if (wrap64 (n - 1)) < (out.length : Int) then (if (rd out (wrap64 (n - 1))) = 0 then (if out.length < 17592186044416 then (spec_l05Deeps.l0 k (out ++ [0]) (wrap64 (n + 1)) a b c) else (none)) else (if out.length < 17592186044416 then (spec_l05Deeps.l0 k (out ++ [m]) (wrap64 (n + 1)) a b c) else (none))) else (none)) else (none)) else (if out.length < 17592186044416 then (spec_l05Deeps.l0 k (out ++ [m]) (wrap64 (n + 1)) a b c) else (none)))) r := by
  rw [w64 (x := n + 1) (by omega) (by omega)]
  unfold finK at hnext
  refine ev_ite (fun c1 => ?_) (fun c1 => ?_)
  · rw [if_pos c1] at hnext
    exact ev_pos (by omega) hnext
  · rw [if_neg c1] at hnext
    refine ev_ite (fun c2 => ?_) (fun c2 => ?_)
    · rw [w64 (x := n - 1) (by omega) (by omega)]
      refine ev_pos (by omega) (ev_pos (by omega) (ev_ite (fun c3 => ?_) (fun c3 => ?_)))
      · rw [if_pos ⟨c2, c3⟩] at hnext
        exact ev_pos (by omega) hnext
      · rw [if_neg (fun h => c3 h.2)] at hnext
        exact ev_pos (by omega) hnext
    · rw [if_neg (fun h => c2 h.1)] at hnext
      exact ev_pos (by omega) hnext
theorem spec_deeps_l1 (a : List S77) (b : List S106) (c : List S103) (out : List Int) (n : Int) (r : List Int) (h0 : 0 ≤ n) (h1 : n < a.length) (ha : fitN a) (hl : (out.length : Int) = n) (ho : ∀ x ∈ out, 0 ≤ x ∧ x ≤ 10) (hA : ahead n (rdOf z77 a n).f5)
    (hnext : Ev (fun k => spec_l05Deeps.l0 k (out ++ [finK out n (mxK out (rdOf z77 a n).f5 1)]) (n + 1) a b c) r) (d : Nat) : ∀ (i m : Int), 0 ≤ i → ((rdOf z77 a n).f5.length : Int) - i = d → 1 ≤ m ∧ m ≤ 11 → mxK out ((rdOf z77 a n).f5.drop i.toNat) m = mxK out (rdOf z77 a n).f5 1 →
    Ev (fun k => spec_l05Deeps.l1 k out n m i a b c) r := by
  have hks : (rdOf z77 a n).f5.length ≤ 1048576 := (ha.2 _ (rdOf_mem h0 h1)).2.2.2
  have hna := ha.1
  have E : ∀ i, rd_T77 a i = rdOf z77 a i := fun _ => rfl
  induction d with
  | zero =>
    intro i m hi hd hm he
    refine ev_step ?_
    simp only [spec_l05Deeps.l1, E]
    rw [List.drop_eq_nil_of_le (by omega)] at he
    have he : m = mxK out (rdOf z77 a n).f5 1 := he
    rw [← he] at hnext
    exact ev_pos h0 (ev_pos h1 (ev_neg (by omega) (spec_deeps_fin a b c out n m r hl (by omega) hnext hm)))
  | succ d ih =>
    intro i m hi hd hm he
    refine ev_step ?_
    simp only [spec_l05Deeps.l1, E]
    have hr := hA _ (rdOf_mem (d := 0) (l := (rdOf z77 a n).f5) (i := i) hi (by omega))
    have hr0 : 0 ≤ rd (rdOf z77 a n).f5 i := hr.1
    have hr1 : rd (rdOf z77 a n).f5 i ≤ n - 1 := hr.2
    have hb := rd_bound (by omega) ho (rd (rdOf z77 a n).f5 i)
    rw [drop_rd' hi (by omega)] at he
    have he : mxK out ((rdOf z77 a n).f5.drop (i + 1).toNat) (mx m (rd out (rd (rdOf z77 a n).f5 i) + 1)) = mxK out (rdOf z77 a n).f5 1 := he
    refine ev_pos h0 (ev_pos h1 (ev_pos (by omega) (ev_pos hi (ev_pos hr0 (ev_pos (by omega) ?_)))))
    rw [w64 (x := rd out (rd (rdOf z77 a n).f5 i) + 1) (by omega) (by omega), w64 (x := i + 1) (by omega) (by omega)]
    refine ev_ite (fun c1 => ?_) (fun c1 => ?_)
    · rw [show mx m (rd out (rd (rdOf z77 a n).f5 i) + 1) = rd out (rd (rdOf z77 a n).f5 i) + 1 from if_pos c1] at he
      exact ih (i + 1) _ (by omega) (by omega) (by omega) he
    · rw [show mx m (rd out (rd (rdOf z77 a n).f5 i) + 1) = m from if_neg c1] at he
      exact ih (i + 1) _ (by omega) (by omega) hm he
theorem node_ahead (a : List S77) (n : Int) (h : nodeP a n = true) : (0 ≤ n ∧ n < a.length) ∧ ahead n (rdOf z77 a n).f5 := by
  unfold nodeP at h
  split at h
  · rename_i hr
    simp only [Bool.and_eq_true] at h
    exact ⟨hr, shape_ahead a n _ _ h.2.1.1 h.2.1.2⟩
  · cases h
theorem spec_deeps_l0 (a : List S77) (b : List S106) (c : List S103) (ha : fitN a) (d : Nat) : ∀ n : Nat, (a.length : Int) - n = d → Ev (fun k => spec_l05Deeps.l0 k (deepL a n) n a b c) (deepL a a.length) := by
  have hna := ha.1
  induction d with
  | zero =>
    intro n hd
    refine ev_step ?_
    simp only [spec_l05Deeps.l0]
    obtain rfl : n = a.length := by omega
    exact ev_neg (by omega) (ev_ret _)
  | succ d ih =>
    intro n hd
    have hl := deepL_length a n
    have next := ih (n + 1) (by omega)
    have next : Ev (fun k => spec_l05Deeps.l0 k (deepL a n ++ [dval a (deepL a n) n]) ((n : Int) + 1) a b c) (deepL a a.length) := next
    refine ev_step ?_
    simp only [spec_l05Deeps.l0]
    refine ev_pos (by omega) (Ev.bind (spec_NodeOk_ev a b c n ha) (ev_ite (fun c1 => ?_) (fun c1 => ?_)))
    · obtain ⟨hr, hA⟩ := node_ahead a n c1
      unfold dval at next
      rw [if_pos c1] at next
      exact spec_deeps_l1 a b c (deepL a n) n _ hr.1 hr.2 ha (by omega) (deepL_bound a n) hA next (rdOf z77 a n).f5.length 0 1 (by omega) (by omega) (by omega) rfl
    · unfold dval at next
      rw [if_neg c1] at next
      refine ev_neg (by decide) ?_
      rw [w64 (x := (n : Int) + 1) (by omega) (by omega)]
      refine ev_ite (fun c2 => ?_) (fun c2 => ev_pos (by omega) next)
      rw [w64 (x := (n : Int) - 1) (by omega) (by omega)]
      exact ev_pos (by omega) (ev_pos (by omega) (ev_ite (fun _ => ev_pos (by omega) next) (fun _ => ev_pos (by omega) next)))
theorem spec_deeps_ev (a : List S77) (b : List S106) (c : List S103) (ha : fitN a) : Ev (fun k => spec_l05Deeps.f k a b c) (deepL a a.length) := by
  unfold spec_l05Deeps.f
  exact spec_deeps_l0 a b c ha a.length 0 (by omega)
/-- What the program holds when it has told the first n of N. -/
def outP (a : List S77) (n N : Nat) : List Int := deepL a n ++ List.replicate (N - n) 0
theorem outP_length (a : List S77) (n N : Nat) (h : n ≤ N) : (outP a n N).length = N := by
  unfold outP
  rw [List.length_append, deepL_length, List.length_replicate]
  omega
theorem outP_rd (a : List S77) (n N : Nat) (x : Int) (h0 : 0 ≤ x) (h : x < n) : rd (outP a n N) x = rd (deepL a n) x := rd_left (by rw [deepL_length]; omega)
theorem outP_zero (a : List S77) (n N k : Nat) (h : n ≤ k) : rd (outP a n N) k = 0 := by
  unfold rd outP
  rw [List.getD_eq_getElem?_getD, List.getElem?_append_right (by rw [deepL_length]; omega), List.getElem?_replicate]
  split <;> rfl
theorem outP_bound (a : List S77) (n N : Nat) : ∀ x ∈ outP a n N, 0 ≤ x ∧ x ≤ 10 := by
  intro x hx
  rcases List.mem_append.1 hx with hx | hx
  · exact deepL_bound a n x hx
  · rw [(List.mem_replicate.1 hx).2]
    omega
theorem outP_set (a : List S77) (n N : Nat) (h : n < N) : (outP a n N).set n (dval a (deepL a n) n) = outP a (n + 1) N := by
  unfold outP
  have hl := deepL_length a n
  rw [List.set_append_right _ _ (by omega), hl, Nat.sub_self, show N - n = (N - (n + 1)) + 1 by omega, List.replicate_succ, List.set_cons_zero]
  show _ = (deepL a n ++ [dval a (deepL a n) n]) ++ _
  rw [List.append_assoc]
  rfl
theorem mxK_congr {l l' : List Int} : ∀ (ks : List Int) (m : Int), (∀ x ∈ ks, rd l x = rd l' x) → mxK l ks m = mxK l' ks m
  | [], _, _ => rfl
  | x :: xs, m, h => by
    unfold mxK
    rw [h x (List.mem_cons_self ..)]
    exact mxK_congr xs _ (fun y hy => h y (List.mem_cons_of_mem _ hy))
/-- A node that is not right ends the loop. -/
theorem impl_deeps_bad (a : List S77) (b : List S106) (c : List S103) (out ks : List Int) (n q m : Int) (t : Int) (hq : q = ks.length) (hks : ks.length ≤ 1048576) (h0 : 0 ≤ n) (hn : n ≤ 1048576) (hl : n < out.length) (ho : ∀ x ∈ out, 0 ≤ x ∧ x ≤ 10) (d : Nat) :
    ∀ (i v : Int), 0 ≤ i → (ks.length : Int) - i = d → 11 ≤ v → Ev (fun k => impl_deeps.l1 k out n v m t ks q i a b c) out := by
  induction d with
  | zero =>
    intro i v hi hd hv
    refine ev_step ?_
    simp only [impl_deeps.l1]
    exact ev_neg (by omega) (ev_pos (by omega) (ev_ret _))
  | succ d ih =>
    intro i v hi hd hv
    refine ev_step ?_
    simp only [impl_deeps.l1]
    have hb := rd_bound (by omega) ho (rd ks i)
    have hm := le_mx v (rd out (rd ks i) + 1)
    rw [w64 (x := n - 1) (by omega) (by omega)]
    refine ev_pos (by omega) (ev_pos hi (ev_pos (by omega) (ev_bindc (within_some _ _ _) (ev_ite (fun c1 => ?_) (fun c1 => ev_pos (by decide) (ev_ret _))))))
    have c2 := of_decide_eq_true c1
    refine ev_pos c2.1 (ev_pos (by omega) (ev_ite (fun c3 => ev_pos (by decide) (ev_ret _)) (fun c3 => ?_)))
    rw [w64 (x := rd out (rd ks i) + 1) (by omega) (by omega), w64 (x := i + 1) (by omega) (by omega)]
    exact ih (i + 1) _ (by omega) (by omega) (by omega)
theorem impl_deeps_good (a : List S77) (b : List S106) (c : List S103) (out ks : List Int) (n q m : Int) (r : List Int) (hq : q = ks.length) (hks : ks.length ≤ 1048576) (h0 : 0 ≤ n) (hn : n ≤ 1048576) (hl : n < out.length) (ho : ∀ x ∈ out, 0 ≤ x ∧ x ≤ 10) (hA : ahead n ks) (hpos : ∀ x, 0 ≤ x → x < n → rd out x ≠ 0)
    (hbad : mxK out ks 1 > 10 → r = out) (hnext : ¬ mxK out ks 1 > 10 → Ev (fun k => impl_deeps.l0 k (out.set n.toNat (mxK out ks 1)) m (n + 1) a b c) r) (d : Nat) :
    ∀ (i v : Int), 0 ≤ i → (ks.length : Int) - i = d → 1 ≤ v ∧ v ≤ 11 → mxK out (ks.drop i.toNat) v = mxK out ks 1 → Ev (fun k => impl_deeps.l1 k out n v m n ks q i a b c) r := by
  induction d with
  | zero =>
    intro i v hi hd hv he
    refine ev_step ?_
    simp only [impl_deeps.l1]
    rw [List.drop_eq_nil_of_le (by omega)] at he
    have he : v = mxK out ks 1 := he
    rw [← he] at hbad hnext
    refine ev_neg (by omega) (ev_ite (fun c1 => ?_) (fun c1 => ?_))
    · rw [hbad c1]
      exact ev_ret _
    · rw [w64 (x := n + 1) (by omega) (by omega)]
      exact ev_pos h0 (ev_pos hl (hnext c1))
  | succ d ih =>
    intro i v hi hd hv he
    refine ev_step ?_
    simp only [impl_deeps.l1]
    have hr := hA _ (rdOf_mem (d := 0) (l := ks) (i := i) hi (by omega))
    have hr0 : 0 ≤ rd ks i := hr.1
    have hr1 : rd ks i ≤ n - 1 := hr.2
    have hb := rd_bound (by omega) ho (rd ks i)
    rw [drop_rd' hi (by omega)] at he
    have he : mxK out (ks.drop (i + 1).toNat) (mx v (rd out (rd ks i) + 1)) = mxK out ks 1 := he
    have h3 := le_mx v (rd out (rd ks i) + 1)
    have h4 : mx v (rd out (rd ks i) + 1) ≤ 11 := mx_le hv.2 (by omega)
    rw [w64 (x := n - 1) (by omega) (by omega)]
    refine ev_pos (by omega) (ev_pos hi (ev_pos (by omega) (ev_bindc (within_some _ _ _) (ev_pos (decide_eq_true ⟨hr0, hr1⟩) (ev_pos hr0 (ev_pos (by omega) (ev_neg (hpos _ hr0 (by omega)) ?_)))))))
    rw [w64 (x := rd out (rd ks i) + 1) (by omega) (by omega), w64 (x := i + 1) (by omega) (by omega)]
    exact ih (i + 1) _ (by omega) (by omega) (by omega) he
theorem impl_deeps_l0 (a : List S77) (b : List S106) (c : List S103) (ha : fitN a) (N : Nat) (hN : N < a.length) (d : Nat) : ∀ n : Nat, N + 1 - n = d → n ≤ N + 1 → (∀ j : Nat, j < n → dval a (deepL a j) j ≠ 0) →
    ∃ out, Ev (fun k => impl_deeps.l0 k (outP a n (N + 1)) ((N + 1 : Nat) : Int) n a b c) out ∧ out.length = N + 1 ∧ rd out N = dval a (deepL a N) N := by
  have hna := ha.1
  induction d with
  | zero =>
    intro n hd hn hpos
    obtain rfl : n = N + 1 := by omega
    refine ⟨outP a (N + 1) (N + 1), ev_step ?_, outP_length a _ _ (Nat.le_refl _), ?_⟩
    · simp only [impl_deeps.l0]
      exact ev_neg (by omega) (ev_ret _)
    · rw [outP_rd a _ _ _ (by omega) (by omega)]
      exact deepL_rd a N (N + 1) (by omega)
  | succ d ih =>
    intro n hd hn hpos
    have hlen := outP_length a n (N + 1) hn
    have hbd := outP_bound a n (N + 1)
    have hks := fun h0 h1 => (ha.2 _ (rdOf_mem (d := z77) (l := a) (i := (n : Int)) h0 h1)).2.2.2
    have E : ∀ i, rd_T77 a i = rdOf z77 a i := fun _ => rfl
    have stop : dval a (deepL a n) n = 0 → ((outP a n (N + 1)).length = N + 1 ∧ rd (outP a n (N + 1)) N = dval a (deepL a N) N) := fun h => ⟨hlen, by rw [outP_zero a n (N + 1) N (by omega), dval_dead a n h N (by omega)]⟩
    by_cases c1 : nodeP a n = true
    · obtain ⟨hr, hA⟩ := node_ahead a n c1
      have hcg : mxK (outP a n (N + 1)) (rdOf z77 a n).f5 1 = mxK (deepL a n) (rdOf z77 a n).f5 1 := mxK_congr _ _ (fun x hx => outP_rd a n _ x (hA x hx).1 (by have := (hA x hx).2; omega))
      have hp : ∀ x, 0 ≤ x → x < (n : Int) → rd (outP a n (N + 1)) x ≠ 0 := by
        intro x h0 h1
        rw [outP_rd a n _ x h0 h1]
        have := deepL_rd a x.toNat n (by omega)
        rw [show ((x.toNat : Nat) : Int) = x by omega] at this
        rw [this]
        have h2 := hpos x.toNat (by omega)
        rw [show ((x.toNat : Nat) : Int) = x by omega] at h2
        exact h2
      have hv : dval a (deepL a n) n = finK (deepL a n) n (mxK (deepL a n) (rdOf z77 a n).f5 1) := if_pos c1
      by_cases c2 : mxK (deepL a n) (rdOf z77 a n).f5 1 > 10
      · have hz : dval a (deepL a n) n = 0 := hv.trans (if_pos c2)
        refine ⟨outP a n (N + 1), ev_step ?_, stop hz⟩
        simp only [impl_deeps.l0]
        refine ev_pos (by omega) (Ev.bind (impl_NodeOk_ev a b c n ha) (ev_pos c1 (ev_step ?_)))
        simp only [impl_deeps.j1, E]
        refine ev_pos hr.1 (ev_pos hr.2 (impl_deeps_good a b c _ _ n _ _ _ rfl (hks hr.1 hr.2) hr.1 (by omega) (by omega) hbd hA hp (fun _ => rfl) (fun h => absurd (hcg ▸ c2) h) (rdOf z77 a n).f5.length 0 1 (by omega) (by omega) (by omega) rfl))
      · have hb1 := mxK_bound (deepL_bound a n) (rdOf z77 a n).f5 1 (by omega)
        have hne : dval a (deepL a n) n ≠ 0 := by
          rw [hv]
          unfold finK
          rw [if_neg c2, if_neg]
          · omega
          · rintro ⟨h1, h2⟩
            have h3 := hp ((n : Int) - 1) (by omega) (by omega)
            rw [outP_rd a n _ _ (by omega) (by omega)] at h3
            exact h3 h2
        have heq : dval a (deepL a n) n = mxK (deepL a n) (rdOf z77 a n).f5 1 := by
          rw [hv] at hne ⊢
          unfold finK at hne ⊢
          rw [if_neg c2] at hne ⊢
          split at hne
          · exact absurd rfl hne
          · rename_i h
            rw [if_neg h]
        obtain ⟨out, e, el, er⟩ := ih (n + 1) (by omega) (by omega) (fun j hj => by
          by_cases c3 : j = n
          · subst c3
            exact hne
          · exact hpos j (by omega))
        refine ⟨out, ev_step ?_, el, er⟩
        simp only [impl_deeps.l0]
        refine ev_pos (by omega) (Ev.bind (impl_NodeOk_ev a b c n ha) (ev_pos c1 (ev_step ?_)))
        simp only [impl_deeps.j1, E]
        refine ev_pos hr.1 (ev_pos hr.2 (impl_deeps_good a b c _ _ n _ _ _ rfl (hks hr.1 hr.2) hr.1 (by omega) (by omega) hbd hA hp (fun h => absurd (hcg ▸ h) c2) (fun _ => ?_) (rdOf z77 a n).f5.length 0 1 (by omega) (by omega) (by omega) rfl))
        rw [hcg, ← heq, show (n : Int).toNat = n from rfl, outP_set a n (N + 1) (by omega)]
        exact e
    · have hz : dval a (deepL a n) n = 0 := if_neg c1
      refine ⟨outP a n (N + 1), ev_step ?_, stop hz⟩
      simp only [impl_deeps.l0]
      refine ev_pos (by omega) (Ev.bind (impl_NodeOk_ev a b c n ha) (ev_neg c1 (ev_step ?_)))
      simp only [impl_deeps.j1, E]
      have h0 : (0 : Int) ≤ n := by omega
      have h1 : (n : Int) < a.length := by omega
      exact ev_pos h0 (ev_pos h1 (impl_deeps_bad a b c _ _ n _ _ _ rfl (hks h0 h1) h0 (by omega) (by omega) hbd (rdOf z77 a n).f5.length 0 11 (by omega) (by omega) (by omega)))
theorem impl_deeps_ev (a : List S77) (b : List S106) (c : List S103) (k : Int) (ha : fitN a) (h0 : 0 ≤ k) (h1 : k < a.length) : ∃ out, Ev (fun j => impl_deeps.f j a b c k) out ∧ (out.length : Int) = k + 1 ∧ rd out k = deepP a k := by
  have hna := ha.1
  obtain ⟨out, e, el, er⟩ := impl_deeps_l0 a b c ha k.toNat (by omega) (k.toNat + 1) 0 (by omega) (by omega) (fun j hj => by omega)
  refine ⟨out, ?_, by omega, ?_⟩
  · unfold impl_deeps.f
    rw [w64 (x := k + 1) (by omega) (by omega)]
    refine ev_pos (by omega) (ev_pos (by omega) (ev_bindc rfl ?_))
    rw [show (k + 1).toNat = k.toNat + 1 by omega, List.length_replicate]
    exact e
  · rw [show ((k.toNat : Nat) : Int) = k by omega] at er
    rw [er]
    exact (if_pos ⟨h0, h1⟩).symm
theorem impl_DeepOf_ev (a : List S77) (b : List S106) (c : List S103) (k : Int) (ha : fitN a) : Ev (fun j => impl_DeepOf.f j a b c k) (deepP a k) := by
  unfold impl_DeepOf.f
  refine ev_bindc (isNode_some a b c k ha.1) (ev_ite (fun c1 => ?_) (fun c1 => ?_))
  · have c2 := of_decide_eq_true c1
    obtain ⟨out, e, el, er⟩ := impl_deeps_ev a b c k ha c2.1 c2.2
    exact Ev.bind e (ev_pos c2.1 (ev_pos (by omega) (ev_eq er (ev_ret _))))
  · unfold deepP
    rw [if_neg (fun h => c1 (decide_eq_true h))]
    exact ev_ret _

theorem right_node (a : List S77) (k : Int) (h : deepP a k ≠ 0) : (0 ≤ k ∧ k < a.length) ∧ nodeP a k = true := by
  unfold deepP at h
  split at h
  · rename_i hr
    refine ⟨hr, ?_⟩
    unfold dval at h
    split at h
    · assumption
    · exact absurd rfl h
  · exact absurd rfl h
theorem right_prev (a : List S77) (k j : Int) (h : deepP a k ≠ 0) (h0 : 0 ≤ j) (h1 : j ≤ k) : deepP a j ≠ 0 := by
  have hr := (right_node a k h).1
  unfold deepP at h ⊢
  rw [if_pos hr] at h
  rw [if_pos ⟨h0, by omega⟩]
  intro hz
  refine h ?_
  have hz' : dval a (deepL a j.toNat) ((j.toNat : Nat) : Int) = 0 := by
    rw [show ((j.toNat : Nat) : Int) = j by omega]
    exact hz
  have := dval_dead a j.toNat hz' k.toNat (by omega)
  rw [show ((k.toNat : Nat) : Int) = k by omega] at this
  exact this
theorem node_parts (a : List S77) (k : Int) (h : nodeP a k = true) : kindP (rdOf z77 a k).f0 = true ∧ shapeP a k (rdOf z77 a k).f0 (rdOf z77 a k).f5 = true ∧ namesP (rdOf z77 a k).f0 (rdOf z77 a k).f1 (rdOf z77 a k).f2 (rdOf z77 a k).f3 (rdOf z77 a k).f4 = true := by
  unfold nodeP at h
  split at h
  · simp only [Bool.and_eq_true] at h
    exact ⟨h.2.1.1, h.2.1.2, h.2.2⟩
  · cases h
theorem kid_value (a : List S77) (k x : Int) (h : isV (kidK a k x) = true) : (0 ≤ x ∧ x ≤ k - 1) ∧ isV (rdOf z77 a x).f0 = true := by
  unfold kidK at h
  split at h
  · exact ⟨‹_›, h⟩
  · simp [isV] at h
theorem kid_block (a : List S77) (k x : Int) (h : isB (kidK a k x) = true) : (0 ≤ x ∧ x ≤ k - 1) ∧ (rdOf z77 a x).f0 = 20 := by
  unfold kidK at h
  split at h
  · exact ⟨‹_›, of_decide_eq_true h⟩
  · simp [isB] at h
theorem kid_statement (a : List S77) (k x : Int) (h : isSt (kidK a k x) = true) : (0 ≤ x ∧ x ≤ k - 1) ∧ isSt (rdOf z77 a x).f0 = true := by
  unfold kidK at h
  split at h
  · exact ⟨‹_›, h⟩
  · simp [isSt] at h
theorem shape_calc (a : List S77) (k : Int) (ks : List Int) (h : shapeP a k 3 ks = true) : ∃ x y, ks = [x, y] ∧ isV (kidK a k x) = true ∧ isV (kidK a k y) = true := by
  unfold shapeP at h
  rw [if_neg (by omega), if_pos rfl] at h
  simp only [Bool.and_eq_true, decide_eq_true_iff] at h
  obtain ⟨x, y, rfl⟩ := len2 h.1
  simp at h
  exact ⟨x, y, rfl, h.1, h.2⟩
theorem shape_one (a : List S77) (k t : Int) (ks : List Int) (h : shapeP a k t ks = true) (ht : t = 4 ∨ t = 5 ∨ t = 11 ∨ t = 14 ∨ t = 15) : ∃ x, ks = [x] ∧ isV (kidK a k x) = true := by
  unfold shapeP at h
  rw [if_neg (by omega), if_neg (by omega), if_pos ht] at h
  simp only [Bool.and_eq_true, decide_eq_true_iff] at h
  obtain ⟨x, rfl⟩ := len1 h.1
  simp at h
  exact ⟨x, rfl, h⟩

theorem spec_DeepOf_ev (a : List S77) (b : List S106) (c : List S103) (k : Int) (ha : fitN a) : Ev (fun j => spec_DeepOf.f j a b c k) (deepP a k) := by
  have hna := ha.1
  unfold spec_DeepOf.f deepP
  rw [w64 (x := (a.length : Int) - 1) (by omega) (by omega)]
  refine ev_bindc (l01In_some _ _ _) (ev_ite (fun c1 => ?_) (fun c1 => ?_))
  · have c2 := of_decide_eq_true c1
    have hl := deepL_length a a.length
    rw [if_pos (by omega)]
    refine Ev.bind (spec_deeps_ev a b c ha) (ev_pos (by omega) (ev_pos (by omega) (ev_eq ?_ (ev_ret _))))
    have := deepL_rd a k.toNat a.length (by omega)
    rw [show ((k.toNat : Nat) : Int) = k by omega] at this
    exact this
  · rw [if_neg (fun h => c1 (decide_eq_true (by omega)))]
    exact ev_ret _

/-! What lies under a node -/
def bAt (u : List Bool) (n : Nat) : Bool := rdOf false u (n : Int)
def markK (ks : List Int) (u : List Bool) : List Bool := ks.foldl (fun u x => u.set x.toNat true) u
def downM (a : List S77) : Nat → List Bool → List Bool
  | 0, u => u
  | n + 1, u => downM a n (if bAt u n = true then markK (rdOf z77 a n).f5 u else u)
def idxL (v : List Bool) : Nat → List Int
  | 0 => []
  | n + 1 => idxL v n ++ (if bAt v n = true then [(n : Int)] else [])
def colM (a : List S77) : Nat → List Bool → List Int → List Int
  | 0, _, out => out
  | n + 1, u, out => if bAt u n = true then colM a n (markK (rdOf z77 a n).f5 u) (out ++ [(n : Int)]) else colM a n u out
theorem bAt_get (u : List Bool) (n : Nat) : bAt u n = u.getD n false := rfl
theorem markK_length : ∀ (ks : List Int) (u : List Bool), (markK ks u).length = u.length
  | [], _ => rfl
  | x :: xs, u => by
    show (markK xs (u.set x.toNat true)).length = u.length
    rw [markK_length xs, List.length_set]
theorem markK_at (n j : Nat) (hj : n ≤ j) : ∀ (ks : List Int) (u : List Bool), (∀ x ∈ ks, 0 ≤ x ∧ x ≤ (n : Int) - 1) → bAt (markK ks u) j = bAt u j
  | [], _, _ => rfl
  | x :: xs, u, h => by
    have hx := h x (List.mem_cons_self ..)
    show bAt (markK xs (u.set x.toNat true)) j = bAt u j
    rw [markK_at n j hj xs _ (fun y hy => h y (List.mem_cons_of_mem _ hy)), bAt_get, bAt_get, List.getD_eq_getElem?_getD, List.getElem?_set_ne (by omega), ← List.getD_eq_getElem?_getD]
theorem downM_length (a : List S77) : ∀ (n : Nat) (u : List Bool), (downM a n u).length = u.length
  | 0, _ => rfl
  | n + 1, u => by
    show (downM a n (if bAt u n = true then markK (rdOf z77 a n).f5 u else u)).length = u.length
    rw [downM_length a n]
    split
    · exact markK_length _ _
    · rfl
theorem downM_at (a : List S77) : ∀ (n : Nat) (u : List Bool) (j : Nat), (∀ m : Nat, m < n → ahead m (rdOf z77 a m).f5) → n ≤ j → bAt (downM a n u) j = bAt u j
  | 0, _, _, _, _ => rfl
  | n + 1, u, j, hk, hj => by
    show bAt (downM a n (if bAt u n = true then markK (rdOf z77 a n).f5 u else u)) j = bAt u j
    rw [downM_at a n _ j (fun m hm => hk m (by omega)) (by omega)]
    split
    · exact markK_at n j (by omega) _ _ (hk n (by omega))
    · rfl
theorem colM_eq (a : List S77) : ∀ (n : Nat) (u : List Bool) (out : List Int), (∀ m : Nat, m < n → ahead m (rdOf z77 a m).f5) → colM a n u out = out ++ (idxL (downM a n u) n).reverse
  | 0, _, out, _ => by simp [colM, idxL]
  | n + 1, u, out, hk => by
    have hk' : ∀ m : Nat, m < n → ahead m (rdOf z77 a m).f5 := fun m hm => hk m (by omega)
    by_cases c : bAt u n = true
    · have h1 : bAt (downM a n (markK (rdOf z77 a n).f5 u)) n = true := by rw [downM_at a n _ n hk' (Nat.le_refl _), markK_at n n (Nat.le_refl _) _ _ (hk n (by omega)), c]
      show (if bAt u n = true then colM a n (markK (rdOf z77 a n).f5 u) (out ++ [(n : Int)]) else colM a n u out) = out ++ (idxL (downM a n (if bAt u n = true then markK (rdOf z77 a n).f5 u else u)) (n + 1)).reverse
      rw [if_pos c, if_pos c, colM_eq a n _ _ hk']
      show _ = out ++ (idxL (downM a n (markK (rdOf z77 a n).f5 u)) n ++ (if bAt (downM a n (markK (rdOf z77 a n).f5 u)) n = true then [(n : Int)] else [])).reverse
      rw [if_pos h1, List.reverse_append, List.append_assoc]
      rfl
    · have h1 : ¬ bAt (downM a n u) n = true := by rw [downM_at a n _ n hk' (Nat.le_refl _)]; exact c
      show (if bAt u n = true then colM a n (markK (rdOf z77 a n).f5 u) (out ++ [(n : Int)]) else colM a n u out) = out ++ (idxL (downM a n (if bAt u n = true then markK (rdOf z77 a n).f5 u else u)) (n + 1)).reverse
      rw [if_neg c, if_neg c, colM_eq a n _ _ hk']
      show _ = out ++ (idxL (downM a n u) n ++ (if bAt (downM a n u) n = true then [(n : Int)] else [])).reverse
      rw [if_neg h1, List.append_nil]
theorem spec_Under_l1 (a : List S77) (b : List S106) (c : List S103) (ha : fitN a) (F r : List Bool) (n : Nat) (hn : n < a.length) (hA : ahead n (rdOf z77 a n).f5) (d : Nat) : ∀ (j : Int) (w : List Bool), 0 ≤ j → ((rdOf z77 a n).f5.length : Int) - j = d → n < w.length → bAt w n = true →
    Ev (fun k => spec_l08Under.l0 k (markK ((rdOf z77 a n).f5.drop j.toNat) w ++ F) ((n : Int) - 1) a b c) r → Ev (fun k => spec_l08Under.l1 k (w ++ F) n j a b c) r := by
  have hks : (rdOf z77 a n).f5.length ≤ 1048576 := (ha.2 _ (rdOf_mem (by omega) (by omega))).2.2.2
  have hna := ha.1
  have E : ∀ i, rd_T77 a i = rdOf z77 a i := fun _ => rfl
  induction d with
  | zero =>
    intro j w h0 hd hw ht hnext
    refine ev_step ?_
    simp only [spec_l08Under.l1, E]
    rw [List.drop_eq_nil_of_le (by omega)] at hnext
    rw [w64 (x := (n : Int) - 1) (by omega) (by omega)]
    exact ev_pos (by omega) (ev_pos (by omega) (ev_neg (by omega) hnext))
  | succ d ih =>
    intro j w h0 hd hw ht hnext
    refine ev_step ?_
    simp only [spec_l08Under.l1, E]
    have hr := hA _ (rdOf_mem (d := 0) (l := (rdOf z77 a n).f5) (i := j) h0 (by omega))
    have hr0 : 0 ≤ rd (rdOf z77 a n).f5 j := hr.1
    have hr1 : rd (rdOf z77 a n).f5 j ≤ n - 1 := hr.2
    have hg : rdOf false (w ++ F) (n : Int) = true := by
      show (w ++ F).getD n false = true
      rw [List.getD_eq_getElem?_getD, List.getElem?_append_left hw, ← List.getD_eq_getElem?_getD]
      exact ht
    rw [drop_rd' h0 (by omega)] at hnext
    have hnext : Ev (fun k => spec_l08Under.l0 k (markK ((rdOf z77 a n).f5.drop (j + 1).toNat) (w.set (rd (rdOf z77 a n).f5 j).toNat true) ++ F) ((n : Int) - 1) a b c) r := hnext
    rw [w64 (x := j + 1) (by omega) (by omega)]
    refine ev_pos (by omega) (ev_pos (by omega) (ev_pos (by omega) (ev_pos (by rw [List.length_append]; omega) (ev_pos hg (ev_pos h0 (ev_pos hr0 (ev_pos (by rw [List.length_append]; omega) ?_)))))))
    rw [List.set_append_left _ _ (by omega)]
    refine ih (j + 1) _ (by omega) (by omega) (by rw [List.length_set]; exact hw) ?_ hnext
    rw [bAt_get, List.getD_eq_getElem?_getD, List.getElem?_set_ne (by omega), ← List.getD_eq_getElem?_getD]
    exact ht
theorem spec_Under_l0 (a : List S77) (b : List S106) (c : List S103) (ha : fitN a) (F : List Bool) : ∀ (n : Nat) (u : List Bool), n ≤ u.length → n ≤ a.length → (∀ m : Nat, m < n → ahead m (rdOf z77 a m).f5) → Ev (fun k => spec_l08Under.l0 k (u ++ F) ((n : Int) - 1) a b c) (downM a n u ++ F)
  | 0, u, _, _, _ => by
    refine ev_step ?_
    simp only [spec_l08Under.l0]
    exact ev_neg (by omega) (ev_ret _)
  | n + 1, u, hu, hna, hk => by
    have hn := ha.1
    have hk' : ∀ m : Nat, m < n → ahead m (rdOf z77 a m).f5 := fun m hm => hk m (by omega)
    have E : ∀ i, rd_T77 a i = rdOf z77 a i := fun _ => rfl
    refine ev_step ?_
    simp only [spec_l08Under.l0]
    rw [show ((n + 1 : Nat) : Int) - 1 = (n : Int) by omega]
    refine ev_pos (by omega) ?_
    show Ev _ (downM a n (if bAt u n = true then markK (rdOf z77 a n).f5 u else u) ++ F)
    by_cases t : bAt u n = true
    · rw [if_pos t]
      exact spec_Under_l1 a b c ha F _ n (by omega) (hk n (by omega)) (rdOf z77 a n).f5.length 0 u (by omega) (by omega) (by omega) t (spec_Under_l0 a b c ha F n (markK (rdOf z77 a n).f5 u) (by rw [markK_length]; omega) (by omega) hk')
    · rw [if_neg t]
      have next := spec_Under_l0 a b c ha F n u (by omega) (by omega) hk'
      have hg : ¬ rdOf false (u ++ F) (n : Int) = true := by
        show ¬ (u ++ F).getD n false = true
        rw [List.getD_eq_getElem?_getD, List.getElem?_append_left (by omega), ← List.getD_eq_getElem?_getD]
        exact t
      refine ev_step ?_
      simp only [spec_l08Under.l1, E]
      rw [w64 (x := (n : Int) - 1) (by omega) (by omega)]
      exact ev_pos (by omega) (ev_pos (by omega) (ev_ite (fun _ => ev_pos (by rw [List.length_append]; omega) (ev_neg hg next)) (fun _ => next)))
theorem impl_Under_l1 (a : List S77) (b : List S106) (c : List S103) (ks : List Int) (q : Int) (hq : q = ks.length) (hks : ks.length ≤ 1048576) (r out : List Int) (n : Nat) (hn : n ≤ 1048576) (hA : ahead n ks) (d : Nat) : ∀ (j : Int) (w : List Bool), 0 ≤ j → (ks.length : Int) - j = d → n < w.length →
    Ev (fun k => impl_NodesUnder.l0 k (markK (ks.drop j.toNat) w) out ((n : Int) - 1) a b c) r → Ev (fun k => impl_NodesUnder.l1 k w out n ks q j a b c) r := by
  induction d with
  | zero =>
    intro j w h0 hd hw hnext
    refine ev_step ?_
    simp only [impl_NodesUnder.l1]
    rw [List.drop_eq_nil_of_le (by omega)] at hnext
    rw [w64 (x := (n : Int) - 1) (by omega) (by omega)]
    exact ev_neg (by omega) hnext
  | succ d ih =>
    intro j w h0 hd hw hnext
    refine ev_step ?_
    simp only [impl_NodesUnder.l1]
    have hr := hA _ (rdOf_mem (d := 0) (l := ks) (i := j) h0 (by omega))
    have hr0 : 0 ≤ rd ks j := hr.1
    have hr1 : rd ks j ≤ n - 1 := hr.2
    rw [drop_rd' h0 (by omega)] at hnext
    rw [w64 (x := j + 1) (by omega) (by omega)]
    exact ev_pos (by omega) (ev_pos h0 (ev_pos (by omega) (ev_pos hr0 (ev_pos (by omega) (ih (j + 1) _ (by omega) (by omega) (by rw [List.length_set]; exact hw) hnext)))))
theorem reverse_l0 (d : Nat) : ∀ (A M B : List Int), M.length ≤ d → A.length + M.length ≤ 1048576 → Ev (fun k => slices_Reverse_int_int.l0 k (A ++ (M ++ B)) A.length ((A.length : Int) + M.length - 1)) (A ++ (M.reverse ++ B)) := by
  have stop : ∀ (A M B : List Int), M.length ≤ 1 → Ev (fun k => slices_Reverse_int_int.l0 k (A ++ (M ++ B)) A.length ((A.length : Int) + M.length - 1)) (A ++ (M.reverse ++ B)) := by
    intro A M B h
    refine ev_step ?_
    simp only [slices_Reverse_int_int.l0]
    have e : M.reverse = M := by
      match M, h with
      | [], _ => rfl
      | [x], _ => rfl
    rw [e]
    exact ev_neg (by omega) (ev_ret _)
  induction d with
  | zero =>
    intro A M B h _
    exact stop A M B (by omega)
  | succ d ih =>
    intro A M B h hs
    by_cases c : M.length ≤ 1
    · exact stop A M B c
    · obtain ⟨x, M1, rfl⟩ : ∃ x M1, M = x :: M1 := by
        cases M with
        | nil => simp at c
        | cons x M1 => exact ⟨x, M1, rfl⟩
      obtain ⟨M2, y, rfl⟩ : ∃ M2 y, M1 = M2 ++ [y] := by
        have hne : M1 ≠ [] := by
          rintro rfl
          simp at c
        exact ⟨M1.dropLast, M1.getLast hne, (List.dropLast_concat_getLast hne).symm⟩
      have hl : (x :: (M2 ++ [y])).length = M2.length + 2 := by simp
      rw [hl] at h hs ⊢
      have r1 : rd (A ++ ((x :: (M2 ++ [y])) ++ B)) (A.length : Int) = x := by
        show (A ++ (x :: (M2 ++ [y] ++ B))).getD A.length 0 = x
        rw [List.getD_eq_getElem?_getD, List.getElem?_append_right (Nat.le_refl _), Nat.sub_self]
        rfl
      have r2 : rd (A ++ ((x :: (M2 ++ [y])) ++ B)) ((A.length : Int) + ((M2.length + 2 : Nat) : Int) - 1) = y := by
        unfold rd
        rw [show ((A.length : Int) + ((M2.length + 2 : Nat) : Int) - 1).toNat = A.length + (M2.length + 1) by omega, List.getD_eq_getElem?_getD, List.getElem?_append_right (by omega), show A.length + (M2.length + 1) - A.length = M2.length + 1 by omega]
        show ((M2 ++ [y] ++ B)[M2.length]?).getD 0 = y
        rw [List.append_assoc, List.getElem?_append_right (Nat.le_refl _), Nat.sub_self]
        rfl
      have s1 : ((A ++ ((x :: (M2 ++ [y])) ++ B)).set (A.length : Int).toNat y).set ((A.length : Int) + ((M2.length + 2 : Nat) : Int) - 1).toNat x = (A ++ [y]) ++ (M2 ++ ([x] ++ B)) := by
        rw [show ((A.length : Int) + ((M2.length + 2 : Nat) : Int) - 1).toNat = A.length + (M2.length + 1) by omega, show (A.length : Int).toNat = A.length from rfl, List.set_append_right _ _ (Nat.le_refl _), Nat.sub_self, List.set_append_right _ _ (by omega), show A.length + (M2.length + 1) - A.length = M2.length + 1 by omega]
        show A ++ (y :: ((M2 ++ [y] ++ B).set M2.length x)) = _
        rw [List.append_assoc, List.set_append_right _ _ (Nat.le_refl _), Nat.sub_self]
        simp
      have next := ih (A ++ [y]) M2 ([x] ++ B) (by omega) (by simp; omega)
      refine ev_step ?_
      simp only [slices_Reverse_int_int.l0]
      have hlen : (A ++ ((x :: (M2 ++ [y])) ++ B)).length = A.length + (M2.length + 2) + B.length := by simp; omega
      rw [r1, r2, s1, w64 (x := (A.length : Int) + 1) (by omega) (by omega), w64 (x := (A.length : Int) + ((M2.length + 2 : Nat) : Int) - 1 - 1) (by omega) (by omega)]
      refine ev_pos (by omega) (ev_pos (by omega) (ev_pos (by omega) (ev_pos (by omega) (ev_pos (by omega) ?_))))
      rw [show ((A ++ [y]).length : Int) = (A.length : Int) + 1 by simp, show (A.length : Int) + 1 + (M2.length : Int) - 1 = (A.length : Int) + ((M2.length + 2 : Nat) : Int) - 1 - 1 by omega] at next
      refine ev_eq ?_ next
      simp
theorem reverse_ev (l : List Int) (hl : l.length ≤ 1048576) : Ev (fun k => slices_Reverse_int_int.f k l) l.reverse := by
  unfold slices_Reverse_int_int.f
  have h := reverse_l0 l.length [] l [] (Nat.le_refl _) (by simpa using hl)
  rw [w64 (x := (l.length : Int) - 1) (by omega) (by omega)]
  simpa using h
theorem impl_Under_l0 (a : List S77) (b : List S106) (c : List S103) (ha : fitN a) : ∀ (n : Nat) (u : List Bool) (out : List Int), n ≤ u.length → n ≤ a.length → out.length + n ≤ 1048576 → (∀ m : Nat, m < n → ahead m (rdOf z77 a m).f5) → (colM a n u out).length ≤ 1048576 → Ev (fun k => impl_NodesUnder.l0 k u out ((n : Int) - 1) a b c) (colM a n u out).reverse
  | 0, u, out, _, _, ho, _, _ => by
    refine ev_step ?_
    simp only [impl_NodesUnder.l0]
    exact ev_neg (by omega) (Ev.bind (reverse_ev out (by omega)) (ev_ret _))
  | n + 1, u, out, hu, hna, ho, hk, hc => by
    have hn := ha.1
    have hk' : ∀ m : Nat, m < n → ahead m (rdOf z77 a m).f5 := fun m hm => hk m (by omega)
    have hks : (rdOf z77 a n).f5.length ≤ 1048576 := (ha.2 _ (rdOf_mem (by omega) (by omega))).2.2.2
    have E : ∀ i, rd_T77 a i = rdOf z77 a i := fun _ => rfl
    have hc : (if bAt u n = true then colM a n (markK (rdOf z77 a n).f5 u) (out ++ [(n : Int)]) else colM a n u out).length ≤ 1048576 := hc
    refine ev_step ?_
    simp only [impl_NodesUnder.l0, E]
    rw [show ((n + 1 : Nat) : Int) - 1 = (n : Int) by omega]
    show Ev _ (if bAt u n = true then colM a n (markK (rdOf z77 a n).f5 u) (out ++ [(n : Int)]) else colM a n u out).reverse
    refine ev_pos (by omega) (ev_pos (by omega) (ev_pos (by omega) ?_))
    by_cases t : bAt u n = true
    · rw [if_pos t] at hc ⊢
      refine ev_pos t (ev_pos (by omega) (ev_pos (by omega) ?_))
      exact impl_Under_l1 a b c _ _ rfl hks _ _ n (by omega) (hk n (by omega)) (rdOf z77 a n).f5.length 0 u (by omega) (by omega) (by omega) (impl_Under_l0 a b c ha n (markK (rdOf z77 a n).f5 u) (out ++ [(n : Int)]) (by rw [markK_length]; omega) (by omega) (by simp; omega) hk' hc)
    · rw [if_neg t] at hc ⊢
      rw [w64 (x := (n : Int) - 1) (by omega) (by omega)]
      exact ev_neg t (impl_Under_l0 a b c ha n u out (by omega) (by omega) (by omega) hk' hc)
theorem idxL_length (v : List Bool) : ∀ n, (idxL v n).length ≤ n
  | 0 => Nat.le_refl _
  | n + 1 => by
    have := idxL_length v n
    show (idxL v n ++ (if bAt v n = true then [(n : Int)] else [])).length ≤ n + 1
    rw [List.length_append]
    split
    · simp
      omega
    · simp
      omega
theorem idxL_range (v : List Bool) : ∀ n, ∀ x ∈ idxL v n, 0 ≤ x ∧ x < (n : Int)
  | 0, x, hx => by cases hx
  | n + 1, x, hx => by
    have hx : x ∈ idxL v n ++ (if bAt v n = true then [(n : Int)] else []) := hx
    rcases List.mem_append.1 hx with hx | hx
    · have := idxL_range v n x hx
      omega
    · split at hx
      · rw [List.mem_singleton.1 hx]
        omega
      · cases hx
/-- The places of a right node and of all below it. -/
def under0 (k : Nat) : List Bool := (List.replicate (k + 1) false).set k true
def underP (a : List S77) (k : Int) : List Int := if deepP a k = 0 then [] else idxL (downM a (k.toNat + 1) (under0 k.toNat)) (k.toNat + 1)
theorem right_ahead (a : List S77) (k : Int) (h : deepP a k ≠ 0) : ∀ m : Nat, m < k.toNat + 1 → ahead m (rdOf z77 a m).f5 := fun m hm => by
  have hr := (right_node a k h).1
  exact (node_ahead a m (right_node a m (right_prev a k m h (by omega) (by omega))).2).2
theorem impl_NodesUnder_ev (a : List S77) (b : List S106) (c : List S103) (k : Int) (ha : fitN a) : Ev (fun j => impl_NodesUnder.f j a b c k) (underP a k) := by
  have hna := ha.1
  unfold impl_NodesUnder.f underP
  refine Ev.bind (impl_DeepOf_ev a b c k ha) (ev_ite (fun h => ?_) (fun h => ?_))
  · rw [if_pos h]
    exact ev_ret _
  · rw [if_neg h]
    have hr := (right_node a k h).1
    have hA := right_ahead a k h
    rw [w64 (x := k + 1) (by omega) (by omega)]
    refine ev_pos (by omega) (ev_pos (by omega) (ev_bindc rfl (ev_pos hr.1 (ev_pos (by rw [List.length_replicate]; omega) ?_))))
    have hl : (under0 k.toNat).length = k.toNat + 1 := by simp [under0]
    have hcol := colM_eq a (k.toNat + 1) (under0 k.toNat) [] hA
    rw [List.nil_append] at hcol
    have h1 := impl_Under_l0 a b c ha (k.toNat + 1) (under0 k.toNat) [] (by omega) (by omega) (by simp; omega) hA (by rw [hcol, List.length_reverse]; have := idxL_length (downM a (k.toNat + 1) (under0 k.toNat)) (k.toNat + 1); omega)
    rw [hcol, List.reverse_reverse, show ((k.toNat + 1 : Nat) : Int) - 1 = k by omega] at h1
    rw [show (k + 1).toNat = k.toNat + 1 by omega]
    exact h1
theorem spec_idx_l0 (v : List Bool) (hv : v.length ≤ 1048576) (d : Nat) : ∀ n : Nat, v.length - n = d → n ≤ v.length → Ev (fun k => spec_NodesUnder.l0 k (idxL v n) v n) (idxL v v.length) := by
  induction d with
  | zero =>
    intro n hd hn
    obtain rfl : n = v.length := by omega
    refine ev_step ?_
    simp only [spec_NodesUnder.l0]
    exact ev_neg (by omega) (ev_ret _)
  | succ d ih =>
    intro n hd hn
    have next := ih (n + 1) (by omega) (by omega)
    have hl := idxL_length v n
    have next : Ev (fun k => spec_NodesUnder.l0 k (idxL v n ++ (if bAt v n = true then [(n : Int)] else [])) v ((n + 1 : Nat) : Int)) (idxL v v.length) := next
    rw [show ((n + 1 : Nat) : Int) = (n : Int) + 1 by omega] at next
    refine ev_step ?_
    simp only [spec_NodesUnder.l0]
    rw [w64 (x := (n : Int) + 1) (by omega) (by omega)]
    refine ev_pos (by omega) (ev_pos (by omega) ?_)
    by_cases t : bAt v n = true
    · rw [if_pos t] at next
      exact ev_pos t (ev_pos (by omega) next)
    · rw [if_neg t, List.append_nil] at next
      exact ev_neg t next
theorem idxL_app (v F : List Bool) : ∀ n, n ≤ v.length → idxL (v ++ F) n = idxL v n
  | 0, _ => rfl
  | n + 1, h => by
    have e : bAt (v ++ F) n = bAt v n := by
      rw [bAt_get, bAt_get, List.getD_eq_getElem?_getD, List.getElem?_append_left (by omega), ← List.getD_eq_getElem?_getD]
    show idxL (v ++ F) n ++ (if bAt (v ++ F) n = true then [(n : Int)] else []) = idxL v n ++ (if bAt v n = true then [(n : Int)] else [])
    rw [idxL_app v F n (by omega), e]
theorem idxL_false (v : List Bool) (m : Nat) : ∀ j, j ≤ m → idxL (v ++ List.replicate m false) (v.length + j) = idxL v v.length
  | 0, _ => idxL_app v _ v.length (Nat.le_refl _)
  | j + 1, h => by
    have e : bAt (v ++ List.replicate m false) (v.length + j) = false := by
      rw [bAt_get, List.getD_eq_getElem?_getD, List.getElem?_append_right (by omega), List.getElem?_replicate]
      split <;> rfl
    show idxL (v ++ List.replicate m false) (v.length + j) ++ (if bAt (v ++ List.replicate m false) (v.length + j) = true then [((v.length + j : Nat) : Int)] else []) = _
    rw [e, if_neg (by decide), List.append_nil]
    exact idxL_false v m j (by omega)
theorem spec_NodesUnder_ev (a : List S77) (b : List S106) (c : List S103) (k : Int) (ha : fitN a) : Ev (fun j => spec_NodesUnder.f j a b c k) (underP a k) := by
  have hna := ha.1
  unfold spec_NodesUnder.f underP
  refine ev_bindc rfl (Ev.bind (spec_DeepOf_ev a b c k ha) (ev_ite (fun h => ?_) (fun h => ?_)))
  · rw [if_pos h]
    exact ev_ret _
  · rw [if_neg h]
    have hr := (right_node a k h).1
    have hA := right_ahead a k h
    have hl : (under0 k.toNat).length = k.toNat + 1 := by simp [under0]
    have hdl := downM_length a (k.toNat + 1) (under0 k.toNat)
    have hu : Ev (fun j => spec_l08Under.f j a b c k) (downM a (k.toNat + 1) (under0 k.toNat) ++ List.replicate (a.length - (k.toNat + 1)) false) := by
      unfold spec_l08Under.f
      refine ev_pos (by omega) (ev_pos (by omega) (ev_bindc rfl (ev_pos hr.1 (ev_pos (by rw [List.length_replicate]; omega) ?_))))
      have e : (List.replicate (a.length : Int).toNat false).set k.toNat true = under0 k.toNat ++ List.replicate (a.length - (k.toNat + 1)) false := by
        unfold under0
        rw [show (a.length : Int).toNat = (k.toNat + 1) + (a.length - (k.toNat + 1)) by omega, ← List.replicate_append_replicate, List.set_append_left _ _ (by simp)]
      rw [e]
      have h1 := spec_Under_l0 a b c ha (List.replicate (a.length - (k.toNat + 1)) false) (k.toNat + 1) (under0 k.toNat) (by omega) (by omega) hA
      rw [show ((k.toNat + 1 : Nat) : Int) - 1 = k by omega] at h1
      exact h1
    refine Ev.bind hu ?_
    generalize downM a (k.toNat + 1) (under0 k.toNat) = v at hdl
    have hv : v.length = k.toNat + 1 := by omega
    have hlen : (v ++ List.replicate (a.length - (k.toNat + 1)) false).length = v.length + (a.length - (k.toNat + 1)) := by simp
    have h2 := spec_idx_l0 (v ++ List.replicate (a.length - (k.toNat + 1)) false) (by omega) _ 0 rfl (by omega)
    rw [hlen, idxL_false v _ _ (Nat.le_refl _), hv] at h2
    exact h2
theorem underP_length (a : List S77) (k : Int) (ha : fitN a) : (underP a k).length ≤ 1048576 := by
  have h0 := ha.1
  unfold underP
  split
  · simp
  · rename_i h
    have hr := (right_node a k h).1
    have := idxL_length (downM a (k.toNat + 1) (under0 k.toNat)) (k.toNat + 1)
    omega

def isCall (a : List S77) (nm : ByteArray) (x : Int) : Bool := decide ((rdOf z77 a x).f0 = 14) && ((rdOf z77 a x).f2.toList == nm.toList)
def idxF (f : Nat → Bool) : Nat → List Int
  | 0 => []
  | n + 1 => idxF f n ++ (if f n = true then [(n : Int)] else [])
theorem idxF_length (f : Nat → Bool) : ∀ n, (idxF f n).length ≤ n
  | 0 => Nat.le_refl _
  | n + 1 => by
    have := idxF_length f n
    show (idxF f n ++ (if f n = true then [(n : Int)] else [])).length ≤ n + 1
    rw [List.length_append]
    split
    · simp
      omega
    · simp
      omega
def callsP (a : List S77) (b : List S106) (c : List S103) (p : Int) : List Int :=
  if 0 ≤ p ∧ p < c.length then idxF (fun m => (underP a (rdOf z103 c p).f3).any (isCall a (rdOf z106 b m).f0)) b.length else []
theorem underP_range (a : List S77) (k : Int) : (∀ x ∈ underP a k, 0 ≤ x ∧ x < (a.length : Int)) ∧ (underP a k).length ≤ a.length := by
  unfold underP
  split
  · exact ⟨fun x hx => (nomatch hx), Nat.zero_le _⟩
  · rename_i h
    have hr := (right_node a k h).1
    have h1 := idxL_length (downM a (k.toNat + 1) (under0 k.toNat)) (k.toNat + 1)
    refine ⟨fun x hx => ?_, by omega⟩
    have := idxL_range _ _ x hx
    omega
theorem spec_CallsOf_l1 (a : List S77) (b : List S106) (c : List S103) (ls out r : List Int) (m : Nat) (hm : m < b.length) (hb : b.length ≤ 1048576) (ho : out.length ≤ 1048576) (hl : ls.length ≤ 1048576) (hin : ∀ x ∈ ls, 0 ≤ x ∧ x < (a.length : Int))
    (hnext : ∀ s : Bool, s = ls.any (isCall a (rdOf z106 b m).f0) → Ev (fun k => spec_CallsOf.l0 k (out ++ (if s = true then [(m : Int)] else [])) ls ((m : Int) + 1) a b c) r) (d : Nat) : ∀ (i : Int) (s : Bool), 0 ≤ i → (ls.length : Int) - i = d → (s || (ls.drop i.toNat).any (isCall a (rdOf z106 b m).f0)) = ls.any (isCall a (rdOf z106 b m).f0) → Ev (fun k => spec_CallsOf.l1 k out ls m s i a b c) r := by
  have E : ∀ i, rd_T77 a i = rdOf z77 a i := fun _ => rfl
  have E2 : ∀ i, rd_T106 b i = rdOf z106 b i := fun _ => rfl
  induction d with
  | zero =>
    intro i s h0 hd he
    refine ev_step ?_
    simp only [spec_CallsOf.l1]
    rw [List.drop_eq_nil_of_le (by omega)] at he
    have next := hnext s (by rw [← he]; simp)
    rw [w64 (x := (m : Int) + 1) (by omega) (by omega)]
    refine ev_neg (by omega) (ev_ite (fun t => ?_) (fun t => ?_))
    · rw [if_pos t] at next
      exact ev_pos (by omega) next
    · rw [if_neg t, List.append_nil] at next
      exact next
  | succ d ih =>
    intro i s h0 hd he
    refine ev_step ?_
    simp only [spec_CallsOf.l1, E, E2]
    have hr : 0 ≤ rd ls i ∧ rd ls i < (a.length : Int) := hin _ (rdOf_mem (d := 0) (l := ls) (i := i) h0 (by omega))
    rw [drop_rd' h0 (by omega), List.any_cons] at he
    rw [w64 (x := i + 1) (by omega) (by omega)]
    refine ev_pos (by omega) (ev_pos h0 (ev_pos hr.1 (ev_pos hr.2 (ev_ite (fun t => ?_) (fun t => ?_)))))
    · refine ih (i + 1) true (by omega) (by omega) ?_
      rw [t] at he
      simpa using he
    · rw [Bool.not_eq_true] at t
      rw [t, Bool.false_or] at he
      refine ev_ite (fun g => ev_pos (by omega) (ev_pos (by omega) ?_)) (fun g => ?_)
      · refine ih (i + 1) _ (by omega) (by omega) ?_
        rw [← he]
        unfold isCall
        rw [decide_eq_true g, Bool.true_and]
      · refine ih (i + 1) false (by omega) (by omega) ?_
        rw [← he]
        unfold isCall
        rw [decide_eq_false g, Bool.false_and]
theorem spec_CallsOf_l0 (a : List S77) (b : List S106) (c : List S103) (ls : List Int) (hb : b.length ≤ 1048576) (hl : ls.length ≤ 1048576) (hin : ∀ x ∈ ls, 0 ≤ x ∧ x < (a.length : Int)) (d : Nat) : ∀ m : Nat, b.length - m = d → m ≤ b.length → Ev (fun k => spec_CallsOf.l0 k (idxF (fun m => ls.any (isCall a (rdOf z106 b m).f0)) m) ls m a b c) (idxF (fun m => ls.any (isCall a (rdOf z106 b m).f0)) b.length) := by
  induction d with
  | zero =>
    intro m hd hm
    obtain rfl : m = b.length := by omega
    refine ev_step ?_
    simp only [spec_CallsOf.l0]
    exact ev_neg (by omega) (ev_ret _)
  | succ d ih =>
    intro m hd hm
    have next := ih (m + 1) (by omega) (by omega)
    have hlen := idxF_length (fun m => ls.any (isCall a (rdOf z106 b m).f0)) m
    refine ev_step ?_
    simp only [spec_CallsOf.l0]
    refine ev_pos (by omega) (spec_CallsOf_l1 a b c ls _ _ m (by omega) hb (by omega) hl hin (fun s hs => ?_) ls.length 0 false (by omega) (by omega) (by simp))
    rw [hs]
    rw [show ((m + 1 : Nat) : Int) = (m : Int) + 1 by omega] at next
    exact next
theorem spec_CallsOf_ev (a : List S77) (b : List S106) (c : List S103) (p : Int) (ha : fitN a) (hb : b.length ≤ 1048576) (hc : c.length ≤ 1048576) : Ev (fun k => spec_CallsOf.f k a b c p) (callsP a b c p) := by
  have hna := ha.1
  unfold spec_CallsOf.f callsP
  refine ev_bindc rfl (ev_bindc (l01In_some _ _ _) ?_)
  by_cases h : 0 ≤ p ∧ p < (c.length : Int)
  · rw [if_pos h]
    have hu := underP_range a (rdOf z103 c p).f3
    refine ev_pos (decide_eq_true ?_) (ev_pos h.1 (ev_pos h.2 (Ev.bind (spec_NodesUnder_ev a b c _ ha) ?_)))
    · rw [w64 (by omega) (by omega)]
      omega
    · exact spec_CallsOf_l0 a b c _ hb (by omega) hu.1 b.length 0 (by omega) (by omega)
  · rw [if_neg h]
    refine ev_neg (fun q => h ?_) (ev_ret _)
    have q := of_decide_eq_true q
    rw [w64 (by omega) (by omega)] at q
    omega

theorem impl_CallsOf_1_some (a : List S77) (b : List S106) (c : List S103) (nm : ByteArray) (q1 q2 : List ByteArray) (q3 : List S131) (x : Int) (h0 : 0 ≤ x) (h1 : x < (a.length : Int)) : impl_CallsOf_1.f x a b c nm q1 q2 q3 = some (isCall a nm x) := by
  have E : ∀ i, rd_T77 a i = rdOf z77 a i := fun _ => rfl
  unfold impl_CallsOf_1.f isCall
  simp only [E]
  rw [if_pos h0, if_pos h1]
  by_cases g : (rdOf z77 a x).f0 = 14
  · rw [if_pos g, decide_eq_true g, Bool.true_and]
    by_cases e : (rdOf z77 a x).f2.toList = nm.toList
    · rw [if_pos e, beq_iff_eq.2 e]
    · rw [if_neg e, beq_eq_false_iff_ne.2 e]
  · rw [if_neg g, decide_eq_false g, Bool.false_and]
theorem impl_CallsOf_idx (a : List S77) (b : List S106) (c : List S103) (nm : ByteArray) (q1 q2 : List ByteArray) (q3 : List S131) (ls : List Int) (hl : ls.length ≤ 1048576) (hin : ∀ x ∈ ls, 0 ≤ x ∧ x < (a.length : Int)) (d : Nat) : ∀ i : Nat, i + d = ls.length →
    ∃ r : Int, Ev (fun k => slices_IndexFunc_int_int_impl_CallsOf_1.l0 k a b c nm q1 q2 q3 ls ls.length i) r ∧ decide (r ≥ 0) = (ls.drop i).any (isCall a nm) := by
  induction d with
  | zero =>
    intro i hi
    refine ⟨-1, ev_step ?_, ?_⟩
    · simp only [slices_IndexFunc_int_int_impl_CallsOf_1.l0]
      exact ev_neg (by omega) (ev_ret _)
    · rw [List.drop_of_length_le (by omega)]
      rfl
  | succ d ih =>
    intro i hi
    have hlt : i < ls.length := by omega
    have hx := hin _ (rdOf_mem (d := (0 : Int)) (l := ls) (i := (i : Int)) (by omega) (by omega))
    have hd : ls.drop i = rdOf 0 ls (i : Int) :: ls.drop (i + 1) := by
      rw [List.drop_eq_getElem_cons hlt]
      unfold rdOf
      rw [List.getD_eq_getElem?_getD, show ((i : Int)).toNat = i by omega, List.getElem?_eq_getElem hlt]
      rfl
    by_cases e : isCall a nm (rdOf 0 ls (i : Int)) = true
    · refine ⟨i, ev_step ?_, ?_⟩
      · simp only [slices_IndexFunc_int_int_impl_CallsOf_1.l0]
        exact ev_pos (by omega) (ev_pos (by omega) (ev_pos (by omega) (ev_bindc (impl_CallsOf_1_some a b c nm q1 q2 q3 _ hx.1 hx.2) (ev_pos e (ev_ret _)))))
      · rw [hd, List.any_cons, e, Bool.true_or, decide_eq_true (by omega)]
    · obtain ⟨r, h1, h2⟩ := ih (i + 1) (by omega)
      refine ⟨r, ev_step ?_, ?_⟩
      · simp only [slices_IndexFunc_int_int_impl_CallsOf_1.l0]
        rw [w64 (x := (i : Int) + 1) (by omega) (by omega)]
        rw [show ((i + 1 : Nat) : Int) = (i : Int) + 1 by omega] at h1
        exact ev_pos (by omega) (ev_pos (by omega) (ev_pos (by omega) (ev_bindc (impl_CallsOf_1_some a b c nm q1 q2 q3 _ hx.1 hx.2) (ev_neg e h1))))
      · rw [h2, hd, List.any_cons]
        have : isCall a nm (rdOf 0 ls (i : Int)) = false := by simpa using e
        rw [this, Bool.false_or]
theorem impl_CallsOf_any (a : List S77) (b : List S106) (c : List S103) (nm : ByteArray) (q1 q2 : List ByteArray) (q3 : List S131) (ls : List Int) (hl : ls.length ≤ 1048576) (hin : ∀ x ∈ ls, 0 ≤ x ∧ x < (a.length : Int)) :
    Ev (fun k => slices_ContainsFunc_int_int_impl_CallsOf_1.f k ls a b c nm q1 q2 q3) (ls.any (isCall a nm)) := by
  obtain ⟨r, h1, h2⟩ := impl_CallsOf_idx a b c nm q1 q2 q3 ls hl hin ls.length 0 (by omega)
  rw [List.drop_zero] at h2
  rw [← h2]
  unfold slices_ContainsFunc_int_int_impl_CallsOf_1.f slices_IndexFunc_int_int_impl_CallsOf_1.f
  exact Ev.bind h1 (ev_ret _)
theorem impl_CallsOf_l0 (a : List S77) (b : List S106) (c : List S103) (ls : List Int) (hb : b.length ≤ 1048576) (hl : ls.length ≤ 1048576) (hin : ∀ x ∈ ls, 0 ≤ x ∧ x < (a.length : Int)) (d : Nat) : ∀ m : Nat, m + d = b.length → Ev (fun k => impl_CallsOf.l0 k (idxF (fun m => ls.any (isCall a (rdOf z106 b m).f0)) m) ls b b.length m a b c) (idxF (fun m => ls.any (isCall a (rdOf z106 b m).f0)) b.length) := by
  have E2 : ∀ i, rd_T106 b i = rdOf z106 b i := fun _ => rfl
  induction d with
  | zero =>
    intro m hm
    obtain rfl : m = b.length := by omega
    refine ev_step ?_
    simp only [impl_CallsOf.l0]
    exact ev_neg (by omega) (ev_ret _)
  | succ d ih =>
    intro m hm
    have next := ih (m + 1) (by omega)
    have hlen := idxF_length (fun m => ls.any (isCall a (rdOf z106 b m).f0)) m
    rw [show ((m + 1 : Nat) : Int) = (m : Int) + 1 by omega] at next
    refine ev_step ?_
    simp only [impl_CallsOf.l0, E2]
    rw [w64 (x := (m : Int) + 1) (by omega) (by omega)]
    refine ev_pos (by omega) (ev_pos (by omega) (ev_pos (by omega) (Ev.bind (impl_CallsOf_any a b c _ _ _ _ ls hl hin) ?_)))
    by_cases e : ls.any (isCall a (rdOf z106 b (m : Int)).f0) = true
    · refine ev_pos e (ev_pos (by omega) ?_)
      have h2 : idxF (fun m => ls.any (isCall a (rdOf z106 b m).f0)) (m + 1) = idxF (fun m => ls.any (isCall a (rdOf z106 b m).f0)) m ++ [(m : Int)] := by
        show _ ++ (if _ then _ else _) = _
        rw [if_pos e]
      rw [h2] at next
      exact next
    · refine ev_neg e ?_
      have h2 : idxF (fun m => ls.any (isCall a (rdOf z106 b m).f0)) (m + 1) = idxF (fun m => ls.any (isCall a (rdOf z106 b m).f0)) m := by
        show _ ++ (if _ then _ else _) = _
        rw [if_neg e, List.append_nil]
      rw [h2] at next
      exact next
theorem impl_CallsOf_ev (a : List S77) (b : List S106) (c : List S103) (p : Int) (ha : fitN a) (hb : b.length ≤ 1048576) (hc : c.length ≤ 1048576) : Ev (fun k => impl_CallsOf.f k a b c p) (callsP a b c p) := by
  have hna := ha.1
  have h1 : impl_isProcess.f a b c p = some (decide (0 ≤ p ∧ p < c.length)) := by
    unfold impl_isProcess.f
    rw [within_some, Option.bind_some, Option.some.injEq, decide_eq_decide, w64 (by omega) (by omega)]
    omega
  unfold impl_CallsOf.f callsP
  refine ev_bindc h1 ?_
  by_cases h : 0 ≤ p ∧ p < (c.length : Int)
  · rw [if_pos h]
    have hu := underP_range a (rdOf z103 c p).f3
    exact ev_pos (decide_eq_true h) (ev_pos h.1 (ev_pos h.2 (Ev.bind (impl_NodesUnder_ev a b c _ ha) (impl_CallsOf_l0 a b c _ hb (by omega) hu.1 b.length 0 (by omega)))))
  · rw [if_neg h]
    exact ev_neg (fun q => h (of_decide_eq_true q)) (ev_ret _)
theorem callsP_length (a : List S77) (b : List S106) (c : List S103) (p : Int) : (callsP a b c p).length ≤ b.length := by
  unfold callsP
  split
  · exact idxF_length _ _
  · exact Nat.zero_le _

def cntI (m : Int) : List Int → Nat
  | [] => 0
  | x :: l => (if x = m then 1 else 0) + cntI m l
theorem cntI_append (m : Int) : ∀ (l l' : List Int), cntI m (l ++ l') = cntI m l + cntI m l'
  | [], l' => by simp [cntI]
  | x :: l, l' => by
    rw [List.cons_append, cntI, cntI, cntI_append m l l']
    omega
theorem idxF_lt (f : Nat → Bool) : ∀ (n : Nat) (x : Int), x ∈ idxF f n → 0 ≤ x ∧ x < (n : Int)
  | 0, x, h => by cases h
  | n + 1, x, h => by
    rcases List.mem_append.1 (show x ∈ idxF f n ++ (if f n = true then [(n : Int)] else []) from h) with h | h
    · have := idxF_lt f n x h
      omega
    · split at h
      · rw [List.mem_singleton] at h
        omega
      · cases h
theorem cntI_idxF (f : Nat → Bool) (m : Int) : ∀ n, cntI m (idxF f n) = if m ∈ idxF f n then 1 else 0
  | 0 => rfl
  | n + 1 => by
    have e : idxF f (n + 1) = idxF f n ++ (if f n = true then [(n : Int)] else []) := rfl
    rw [e, cntI_append, cntI_idxF f m n]
    by_cases h : f n = true
    · rw [if_pos h]
      by_cases hm : m = (n : Int)
      · have hn : m ∉ idxF f n := fun hx => by have := idxF_lt f n m hx; omega
        rw [if_neg hn, if_pos (List.mem_append.2 (.inr (by rw [hm]; exact List.mem_singleton.2 rfl)))]
        simp [cntI, hm]
      · have : cntI m [(n : Int)] = 0 := by
          simp only [cntI]
          rw [if_neg (fun h => hm h.symm)]
        rw [this, Nat.add_zero]
        by_cases hx : m ∈ idxF f n
        · rw [if_pos hx, if_pos (List.mem_append.2 (.inl hx))]
        · rw [if_neg hx, if_neg (fun h2 => by
            rcases List.mem_append.1 h2 with h2 | h2
            · exact hx h2
            · exact hm (List.mem_singleton.1 h2))]
    · rw [if_neg h, List.append_nil]
      simp [cntI]
theorem cntI_calls (a : List S77) (b : List S106) (c : List S103) (p m : Int) : cntI m (callsP a b c p) = if m ∈ callsP a b c p then 1 else 0 := by
  unfold callsP
  split
  · exact cntI_idxF _ _ _
  · rfl
def sharedN (a : List S77) (b : List S106) (c : List S103) (m : Int) : Nat → Nat → Nat
  | _, 0 => 0
  | i, d + 1 => (if m ∈ callsP a b c (i : Int) then 1 else 0) + sharedN a b c m (i + 1) d
theorem sharedN_le (a : List S77) (b : List S106) (c : List S103) (m : Int) : ∀ d i, sharedN a b c m i d ≤ d
  | 0, _ => Nat.le_refl _
  | d + 1, i => by
    have := sharedN_le a b c m d (i + 1)
    simp only [sharedN]
    split <;> omega
theorem spec_Shared_l1 (a : List S77) (b : List S106) (c : List S103) (m : Int) (ls : List Int) (hl : ls.length ≤ 1048576) (r : Bool) (i : Int) (h0 : 0 ≤ i) (h1 : i ≤ 1048576) (T : Int) (hT : T ≤ 9000000000) (hnext : Ev (fun k => spec_Shared.l0 k m T (i + 1) a b c) r) (d : Nat) : ∀ (j : Nat) (n : Int), j + d = ls.length → 0 ≤ n → n + (cntI m (ls.drop j) : Nat) = T → Ev (fun k => spec_Shared.l1 k m n i ls j a b c) r := by
  induction d with
  | zero =>
    intro j n hj hn he
    refine ev_step ?_
    simp only [spec_Shared.l1]
    rw [w64 (x := i + 1) (by omega) (by omega)]
    rw [List.drop_of_length_le (by omega)] at he
    simp only [cntI] at he
    have : n = T := by omega
    subst this
    exact ev_neg (by omega) hnext
  | succ d ih =>
    intro j n hj hn he
    have hlt : j < ls.length := by omega
    have hd : ls.drop j = rdOf 0 ls (j : Int) :: ls.drop (j + 1) := by
      rw [List.drop_eq_getElem_cons hlt]
      unfold rdOf
      rw [List.getD_eq_getElem?_getD, show ((j : Int)).toNat = j by omega, List.getElem?_eq_getElem hlt]
      rfl
    rw [hd] at he
    simp only [cntI] at he
    refine ev_step ?_
    simp only [spec_Shared.l1]
    rw [w64 (x := (j : Int) + 1) (by omega) (by omega)]
    refine ev_pos (by omega) (ev_pos (by omega) ?_)
    by_cases e : rdOf 0 ls (j : Int) = m
    · rw [if_pos e] at he
      have h2 := ih (j + 1) (n + 1) (by omega) (by omega) (by omega)
      rw [show ((j + 1 : Nat) : Int) = (j : Int) + 1 by omega] at h2
      rw [w64 (x := n + 1) (by omega) (by omega)]
      exact ev_pos e h2
    · rw [if_neg e] at he
      have h2 := ih (j + 1) n (by omega) hn (by omega)
      rw [show ((j + 1 : Nat) : Int) = (j : Int) + 1 by omega] at h2
      exact ev_neg e h2
theorem spec_Shared_l0 (a : List S77) (b : List S106) (c : List S103) (m : Int) (ha : fitN a) (hb : b.length ≤ 1048576) (hc : c.length ≤ 1048576) (d : Nat) : ∀ (i n : Nat), i + d = c.length → n ≤ i → Ev (fun k => spec_Shared.l0 k m n i a b c) (decide (((n + sharedN a b c m i d : Nat) : Int) > 1)) := by
  induction d with
  | zero =>
    intro i n hi hn
    refine ev_step ?_
    simp only [spec_Shared.l0]
    exact ev_neg (by omega) (ev_ret _)
  | succ d ih =>
    intro i n hi hn
    have hlen := callsP_length a b c (i : Int)
    have hcnt := cntI_calls a b c (i : Int) m
    refine ev_step ?_
    simp only [spec_Shared.l0]
    have hle : (if m ∈ callsP a b c (i : Int) then 1 else 0) ≤ 1 := by split <;> omega
    have next := ih (i + 1) (n + (if m ∈ callsP a b c (i : Int) then 1 else 0)) (by omega) (by omega)
    rw [show ((i + 1 : Nat) : Int) = (i : Int) + 1 by omega, Nat.add_assoc] at next
    refine ev_pos (by omega) (Ev.bind (spec_CallsOf_ev a b c i ha hb hc) (spec_Shared_l1 a b c m (callsP a b c i) (by omega) _ i (by omega) (by omega) ((n + (if m ∈ callsP a b c (i : Int) then 1 else 0) : Nat) : Int) (by omega) next (callsP a b c i).length 0 n (by omega) (by omega) (by rw [List.drop_zero, hcnt]; omega)))
theorem impl_Shared_l0 (a : List S77) (b : List S106) (c : List S103) (m : Int) (ha : fitN a) (hb : b.length ≤ 1048576) (hc : c.length ≤ 1048576) (d : Nat) : ∀ (i n : Nat), i + d = c.length → n ≤ i → Ev (fun k => impl_Shared.l0 k m n c.length i a b c) (decide (((n + sharedN a b c m i d : Nat) : Int) > 1)) := by
  induction d with
  | zero =>
    intro i n hi hn
    refine ev_step ?_
    simp only [impl_Shared.l0]
    exact ev_neg (by omega) (ev_ret _)
  | succ d ih =>
    intro i n hi hn
    have hlen := callsP_length a b c (i : Int)
    refine ev_step ?_
    simp only [impl_Shared.l0]
    rw [w64 (x := (i : Int) + 1) (by omega) (by omega), w64 (x := (n : Int) + 1) (by omega) (by omega)]
    refine ev_pos (by omega) (Ev.bind (impl_CallsOf_ev a b c i ha hb hc) (Ev.bind (slices_ContainsI_ev _ m (by omega)) ?_))
    by_cases e : m ∈ callsP a b c (i : Int)
    · have next := ih (i + 1) (n + 1) (by omega) (by omega)
      rw [show ((i + 1 : Nat) : Int) = (i : Int) + 1 by omega, show ((n + 1 : Nat) : Int) = (n : Int) + 1 by omega, Nat.add_assoc] at next
      have hs : sharedN a b c m i (d + 1) = 1 + sharedN a b c m (i + 1) d := by
        simp only [sharedN]
        rw [if_pos e]
      exact ev_eq (decide_eq_decide.2 (by rw [hs])) (ev_pos (decide_eq_true e) next)
    · have next := ih (i + 1) n (by omega) (by omega)
      rw [show ((i + 1 : Nat) : Int) = (i : Int) + 1 by omega] at next
      have hs : sharedN a b c m i (d + 1) = sharedN a b c m (i + 1) d := by
        simp only [sharedN]
        rw [if_neg e, Nat.zero_add]
      exact ev_eq (decide_eq_decide.2 (by rw [hs])) (ev_neg (fun h => e (of_decide_eq_true h)) next)
def sharedP (a : List S77) (b : List S106) (c : List S103) (m : Int) : Bool := decide (((0 + sharedN a b c m 0 c.length : Nat) : Int) > 1)
theorem spec_Shared_ev (a : List S77) (b : List S106) (c : List S103) (m : Int) (ha : fitN a) (hb : b.length ≤ 1048576) (hc : c.length ≤ 1048576) : Ev (fun k => spec_Shared.f k a b c m) (sharedP a b c m) := by
  unfold spec_Shared.f sharedP
  exact spec_Shared_l0 a b c m ha hb hc c.length 0 0 (by omega) (by omega)
theorem impl_Shared_ev (a : List S77) (b : List S106) (c : List S103) (m : Int) (ha : fitN a) (hb : b.length ≤ 1048576) (hc : c.length ≤ 1048576) : Ev (fun k => impl_Shared.f k a b c m) (sharedP a b c m) := by
  unfold impl_Shared.f sharedP
  exact impl_Shared_l0 a b c m ha hb hc c.length 0 0 (by omega) (by omega)

theorem FnExactShared : Go.Proofs.Ytmbkcbgbienjoaa.OpnFnExactShared.Pure := by
  intro pa pb pc m ga gb gc _
  refine Ev.rounds ?_
  unfold laws_FnExactShared.f
  obtain ⟨r, hr, hrle, hrx⟩ := szProgram_ev pa pb pc ga gb gc 1048576 (by omega) (by omega)
  refine Ev.bind hr ?_
  by_cases c : r < 0
  · exact ev_pos c (ev_ret _)
  · refine ev_neg c ?_
    have hp := hrx (by omega)
    have hf := fitN_of pa hp.1
    have hlb : (pb.map cMonitor).length ≤ 1048576 := by
      rw [List.length_map]
      exact hp.2.1.1
    have hlc : (pc.map cProcess).length ≤ 1048576 := by
      rw [List.length_map]
      exact hp.2.2.1
    have tp := toProgram_ev pa pb pc hp
    have ep := eqProgram_ev pa pb pc hp
    generalize pa.map cNode = a at tp ep hf
    generalize pb.map cMonitor = b at tp ep hlb
    generalize pc.map cProcess = c at tp ep hlc
    exact Ev.bind tp (Ev.bind (spec_Shared_ev a b c m hf hlb hlc) (Ev.bind tp (Ev.bind (impl_Shared_ev a b c m hf hlb hlc) (ev_neg (by simp) (Ev.bind tp (Ev.bind ep (ev_pos rfl (ev_ret _))))))))

end Go.Proofs.Ytmbkcbgbienjoaa.Pure
