/- The program's StepThread answers as the reference's at every program and thread, leaves its arguments as they were, and its answer owns its memory. No condition beyond the law's own bound. -/
import Derived.Test.YtjjhknklnclokaaGreatOpnFnExactStepThread
set_option linter.unusedVariables false
set_option linter.unusedSimpArgs false
namespace Go.Proofs.YtjjhknklnclokaaGreat.Pure
open Go.RowKit Go.Proofs.YtjjhknklnclokaaGreat.PFnExactStepThread Go.Proofs.YtjjhknklnclokaaGreatW.PrintWords Go.Proofs.YtjjhknklnclokaaGreatW.PrintLast Go.Proofs.YtjjhknklnclokaaGreatW.PrintMore Go.Proofs.YtjjhknklnclokaaGreat.Opn Go.Proofs.YtjjhknklnclokaaGreat.OpnFnExactStepThread

theorem w64 {x : Int} (h0 : -9223372036854775808 ≤ x) (h1 : x ≤ 9223372036854775807) : wrap64 x = x := by
  unfold wrap64
  omega
theorem wf_i64 {x : Int} (h : (Lit.int .i64 x).wf = true) : -9223372036854775808 ≤ x ∧ x ≤ 9223372036854775807 := by
  simp [Lit.wf, IntKind.min, IntKind.max, IntKind.signed, IntKind.bits] at h
  omega

instance lawBA : LawfulBEq ByteArray where
  eq_of_beq {a b} h := by
    cases a
    cases b
    congr 1
    exact eq_of_beq (α := Array UInt8) h
  rfl {a} := by
    cases a
    exact BEq.rfl (α := Array UInt8)

/-! Rounds -/
theorem ev_step {α : Type} {g : Nat → Option α} {r : α} (h : Ev (fun k => g (k + 1)) r) : Ev g r := Ev.step (fun _ => rfl) h
theorem ev_ret {α : Type} (r : α) : Ev (fun _ => some r) r := ⟨0, fun _ _ => rfl⟩
theorem ev_pos {α : Type} {c : Prop} [Decidable c] {g f : Nat → Option α} {r : α} (h : c) (k : Ev g r) : Ev (fun n => if c then g n else f n) r :=
  Ev.congr (fun _ => if_pos h) k
theorem ev_neg {α : Type} {c : Prop} [Decidable c] {g f : Nat → Option α} {r : α} (h : ¬ c) (k : Ev f r) : Ev (fun n => if c then g n else f n) r :=
  Ev.congr (fun _ => if_neg h) k
theorem ev_bindc {α β : Type} {x : Option α} {f : Nat → α → Option β} {a : α} {r : β} (h : x = some a) (k : Ev (fun n => f n a) r) : Ev (fun n => x.bind (f n)) r := by
  subst h
  exact k
theorem ev_rpos {α : Type} {c : Prop} [Decidable c] {g : Nat → Option α} {a b : α} (h : c) (k : Ev g a) : Ev g (if c then a else b) := by
  rw [if_pos h]
  exact k
theorem ev_rneg {α : Type} {c : Prop} [Decidable c] {g : Nat → Option α} {a b : α} (h : ¬ c) (k : Ev g b) : Ev g (if c then a else b) := by
  rw [if_neg h]
  exact k
theorem ev_eq {α : Type} {g : Nat → Option α} {r r' : α} (h : r = r') (k : Ev g r) : Ev g r' := h ▸ k

/-! Lists and texts as lists of numbers -/
def bs (s : ByteArray) : List Int := s.data.toList.map fun c => (c.toNat : Int)
theorem bs_length (s : ByteArray) : (bs s).length = s.size := by
  unfold bs
  rw [List.length_map, Array.length_toList]
  rfl
theorem bs_range {s : ByteArray} {x : Int} (h : x ∈ bs s) : 0 ≤ x ∧ x < 256 := by
  unfold bs at h
  obtain ⟨c, _, rfl⟩ := List.mem_map.1 h
  have := c.toNat_lt
  omega
theorem bs_inj {a b : ByteArray} (h : bs a = bs b) : a = b := by
  have h2 : a.data.toList = b.data.toList := by
    have h3 := congrArg (List.map fun n : Int => UInt8.ofNat n.toNat) h
    unfold bs at h3
    rw [List.map_map, List.map_map] at h3
    have e : ∀ l : List UInt8, l.map ((fun n : Int => UInt8.ofNat n.toNat) ∘ fun c => (c.toNat : Int)) = l := by
      intro l
      induction l with
      | nil => rfl
      | cons c l ih =>
        rw [List.map_cons, ih]
        simp
    rwa [e, e] at h3
  cases a
  cases b
  congr 1
  exact Array.toList_inj.1 h2
theorem toList_eq_iff {a b : ByteArray} : a.toList = b.toList ↔ a = b := by
  constructor
  · intro h
    rw [ByteArray.toList_eq, ByteArray.toList_eq] at h
    cases a
    cases b
    congr 1
    exact Array.toList_inj.1 h
  · rintro rfl
    rfl
theorem drop_rd {α : Type} {d : α} {l : List α} {i : Int} (h0 : 0 ≤ i) (h1 : i < l.length) : l.drop i.toNat = rdOf d l i :: l.drop (i + 1).toNat := by
  have h2 : i.toNat < l.length := by omega
  rw [List.drop_eq_getElem_cons h2]
  unfold rdOf
  rw [List.getD_eq_getElem?_getD, List.getElem?_eq_getElem h2, show (i + 1).toNat = i.toNat + 1 by omega]
  rfl
theorem drop_end {α : Type} {l : List α} {i : Int} (h0 : 0 ≤ i) (h1 : ¬ i < l.length) : l.drop i.toNat = [] := List.drop_eq_nil_of_le (by omega)
theorem bs_rd {s : ByteArray} {i : Int} (h0 : 0 ≤ i) (h1 : i < s.size) : rdOf 0 (bs s) i = bt s i := by
  have h2 : i.toNat < s.size := by omega
  have h3 : i.toNat < s.data.toList.length := by
    rw [Array.length_toList]
    exact h2
  unfold rdOf bs bt
  rw [List.getD_eq_getElem?_getD, List.getElem?_map, List.getElem?_eq_getElem h3, dif_pos h2]
  rfl
theorem bs_drop {s : ByteArray} {i : Int} (h0 : 0 ≤ i) (h1 : i < s.size) : (bs s).drop i.toNat = bt s i :: (bs s).drop (i + 1).toNat := by
  rw [drop_rd (d := 0) h0 (by rw [bs_length]; exact h1), bs_rd h0 h1]
theorem bs_end {s : ByteArray} {i : Int} (h0 : 0 ≤ i) (h1 : ¬ i < s.size) : (bs s).drop i.toNat = [] := drop_end h0 (by rw [bs_length]; exact h1)
theorem strOf_bs (s : ByteArray) : strOfNums (bs s) = s := by
  have e : (bs s).map (fun n => UInt8.ofNat n.toNat) = s.data.toList := by
    unfold bs
    rw [List.map_map]
    conv => rhs; rw [← List.map_id s.data.toList]
    exact List.map_congr_left fun c _ => by simp
  unfold strOfNums
  rw [e]
theorem bs_strOf {l : List Int} (h : ∀ x ∈ l, 0 ≤ x ∧ x < 256) : bs (strOfNums l) = l := by
  unfold bs strOfNums
  rw [List.map_map]
  conv => rhs; rw [← List.map_id l]
  refine List.map_congr_left fun x hx => ?_
  obtain ⟨h0, h1⟩ := h x hx
  simp only [Function.comp_apply, UInt8.toNat_ofNat', id_eq]
  omega
theorem bs_append (a b : ByteArray) : bs (a ++ b) = bs a ++ bs b := by simp [bs]
theorem strOf_append (a b : List Int) : strOfNums (a ++ b) = strOfNums a ++ strOfNums b := by
  cases h : strOfNums a ++ strOfNums b
  rename_i d
  have := congrArg ByteArray.data h
  simp only [ByteArray.data_append] at this
  unfold strOfNums at this ⊢
  simp only [← this]
  simp
theorem ev_id {α : Type} {g : Nat → Option α} {r : α} (h : ∀ k, g k = some r) : Ev g r := ⟨0, fun k _ => h k⟩

theorem set_take {α : Type} (l : List α) (i : Nat) (x : α) (h : i < l.length) : (l.set i x).take (i + 1) = l.take i ++ [x] := by
  apply List.ext_getElem?
  intro j
  rcases Nat.lt_trichotomy j i with hj | hj | hj
  · rw [List.getElem?_take_of_lt (by omega), List.getElem?_set_ne (by omega), List.getElem?_append_left (by simp; omega), List.getElem?_take_of_lt hj]
  · subst hj
    rw [List.getElem?_take_of_lt (by omega), List.getElem?_set_self h, List.getElem?_append_right (by simp; omega)]
    simp [Nat.min_eq_left (Nat.le_of_lt h)]
  · rw [List.getElem?_eq_none (by simp; omega), List.getElem?_eq_none (by simp; omega)]
theorem take_rd {α : Type} (d : α) {l : List α} {i : Int} (h0 : 0 ≤ i) (h1 : i < l.length) : l.take (i + 1).toNat = l.take i.toNat ++ [rdOf d l i] := by
  have h2 : i.toNat < l.length := by omega
  rw [show (i + 1).toNat = i.toNat + 1 by omega, List.take_succ_eq_append_getElem h2]
  unfold rdOf
  rw [List.getD_eq_getElem?_getD, List.getElem?_eq_getElem h2]
  rfl
theorem rd_rdOf (l : List Int) (i : Int) : rd l i = rdOf 0 l i := rfl
theorem rdOf_mem {α : Type} {d : α} {l : List α} {i : Int} (h0 : 0 ≤ i) (h1 : i < l.length) : rdOf d l i ∈ l := by
  unfold rdOf
  rw [List.getD_eq_getElem?_getD, List.getElem?_eq_getElem (show i.toNat < l.length by omega)]
  exact List.getElem_mem _
/-- A copy made element by element, one round. -/
theorem copy_step {α : Type} (d : α) {src acc : List α} {i : Int} (h0 : 0 ≤ i) (h1 : i < src.length) (hl : acc.length = src.length) (ht : acc.take i.toNat = src.take i.toNat) :
    (acc.set i.toNat (rdOf d src i)).length = src.length ∧ (acc.set i.toNat (rdOf d src i)).take (i + 1).toNat = src.take (i + 1).toNat := by
  refine ⟨by simpa using hl, ?_⟩
  rw [take_rd d h0 h1, ← ht, show (i + 1).toNat = i.toNat + 1 by omega, set_take _ _ _ (by omega)]
theorem copy_end {α : Type} {src acc : List α} {i : Int} (h0 : 0 ≤ i) (h1 : ¬ i < src.length) (hl : acc.length = src.length) (ht : acc.take i.toNat = src.take i.toNat) : acc = src := by
  rw [List.take_of_length_le (by omega), List.take_of_length_le (by omega)] at ht
  exact ht

theorem szStringS_l0 (l : List ByteArray) (hl : l.length ≤ 1048576) (hs : ∀ x ∈ l, x.size ≤ 9223372036854775807) (n : Nat) : ∀ (left i : Int), 0 ≤ left → left ≤ 1048576 → 0 ≤ i → (l.length : Int) - i = n →
    ∃ r, Ev (fun k => laws_szStringS.l0 k l left i) r ∧ r ≤ left ∧ (0 ≤ r → ∀ x ∈ l.drop i.toNat, (x.size : Int) ≤ left) := by
  induction n with
  | zero =>
    intro left i h0 h1 hi hn
    refine ⟨left, ev_step ?_, Int.le_refl _, fun _ x hx => ?_⟩
    · simp only [laws_szStringS.l0]
      exact ev_neg (by omega) (ev_ret _)
    · rw [drop_end hi (by omega)] at hx
      cases hx
  | succ n ih =>
    intro left i h0 h1 hi hn
    have hz := hs _ (rdOf_mem (d := ByteArray.empty) (l := l) hi (by omega))
    rw [drop_rd (d := ByteArray.empty) (l := l) hi (by omega)]
    have step : ∀ r, Ev (fun k => if (wrap64 (left - ((rdOf ByteArray.empty l i).size : Int))) < 0 then (some (-1)) else (laws_szStringS.l0 k l (wrap64 (left - ((rdOf ByteArray.empty l i).size : Int))) (wrap64 (i + 1)))) r → Ev (fun k => laws_szStringS.l0 k l left i) r := by
      intro r h
      refine ev_step ?_
      simp only [laws_szStringS.l0]
      exact ev_pos (by omega) (ev_pos hi h)
    generalize rdOf ByteArray.empty l i = y at hz step ⊢
    rw [w64 (x := left - (y.size : Int)) (by omega) (by omega), w64 (x := i + 1) (by omega) (by omega)] at step
    by_cases c : left - (y.size : Int) < 0
    · exact ⟨-1, step _ (ev_pos c (ev_ret _)), by omega, fun h => by omega⟩
    · obtain ⟨r, hr, hle, hx⟩ := ih (left - y.size) (i + 1) (by omega) (by omega) (by omega) (by omega)
      refine ⟨r, step _ (ev_neg c hr), by omega, fun h x hm => ?_⟩
      rcases List.mem_cons.1 hm with rfl | hm
      · omega
      · have := hx h x hm
        omega
theorem szStringS_ev (l : List ByteArray) (hl : l.length ≤ 9223372036854775807) (hs : ∀ x ∈ l, x.size ≤ 9223372036854775807) (left : Int) (h0 : 0 ≤ left) (h1 : left ≤ 1048576) :
    ∃ r, Ev (fun k => laws_szStringS.f k l left) r ∧ r ≤ left ∧ (0 ≤ r → (l.length : Int) ≤ left ∧ ∀ x ∈ l, (x.size : Int) ≤ left) := by
  unfold laws_szStringS.f
  rw [w64 (x := left - (l.length : Int)) (by omega) (by omega)]
  by_cases c : left - (l.length : Int) < 0
  · exact ⟨-1, ev_pos c (ev_ret _), by omega, fun h => by omega⟩
  · obtain ⟨r, hr, hle, hx⟩ := szStringS_l0 l (by omega) hs l.length (left - l.length) 0 (by omega) (by omega) (by omega) (by omega)
    refine ⟨r, ev_neg c hr, by omega, fun h => ⟨by omega, fun x hm => ?_⟩⟩
    have := hx h x (by simpa using hm)
    omega

theorem szIntS_some (l : List Int) (hl : l.length ≤ 9223372036854775807) (left : Int) (h0 : 0 ≤ left) (h1 : left ≤ 1048576) :
    ∃ r, laws_szIntS.f l left = some r ∧ r ≤ left ∧ (0 ≤ r → (l.length : Int) ≤ left) := by
  unfold laws_szIntS.f
  rw [w64 (x := left - (l.length : Int)) (by omega) (by omega)]
  by_cases c : left - (l.length : Int) < 0
  · exact ⟨-1, if_pos c, by omega, fun h => by omega⟩
  · exact ⟨left - l.length, if_neg c, by omega, fun h => by omega⟩

def okNode (x : S99) : Prop := x.f2.size ≤ 1048576 ∧ x.f3.size ≤ 1048576 ∧ x.f4.size ≤ 1048576 ∧ x.f5.length ≤ 1048576
def okEntry (x : S171) : Prop := x.f0.size ≤ 1048576 ∧ x.f1.size ≤ 1048576
def okMonitor (x : S103) : Prop := x.f0.size ≤ 1048576 ∧ x.f1.length ≤ 1048576 ∧ (∀ s ∈ x.f1, s.size ≤ 1048576) ∧ x.f2.length ≤ 1048576 ∧ (∀ s ∈ x.f2, s.size ≤ 1048576) ∧ x.f3.length ≤ 1048576 ∧ ∀ e ∈ x.f3, okEntry e
def okProcess (x : S106) : Prop := x.f0.size ≤ 1048576 ∧ x.f1.length ≤ 1048576 ∧ (∀ s ∈ x.f1, s.size ≤ 1048576) ∧ x.f2.length ≤ 1048576 ∧ ∀ s ∈ x.f2, s.size ≤ 1048576
theorem szNode_ev (x : S99) (hg : G99 x) (left : Int) (h0 : 0 ≤ left) (h1 : left ≤ 1048576) : ∃ r, Ev (fun _ => laws_szNode.f x.f0 x.f1 x.f2 x.f3 x.f4 x.f5 left) r ∧ r ≤ left ∧ (0 ≤ r → okNode x) := by
  obtain ⟨a, b, c, d, e, f⟩ := x
  obtain ⟨_, _, g2, g3, g4, g5, _⟩ := hg
  have g2 : c.size ≤ 9223372036854775807 := g2
  have g3 : d.size ≤ 9223372036854775807 := g3
  have g4 : e.size ≤ 9223372036854775807 := g4
  have g5 : f.length ≤ 9223372036854775807 := g5
  simp only [laws_szNode.f, okNode]
  rw [w64 (x := left - (c.size : Int)) (by omega) (by omega)]
  by_cases c1 : left - (c.size : Int) < 0
  · exact ⟨-1, ev_pos c1 (ev_ret _), by omega, fun h => by omega⟩
  · rw [w64 (x := left - (c.size : Int) - (d.size : Int)) (by omega) (by omega)]
    by_cases c2 : left - (c.size : Int) - (d.size : Int) < 0
    · exact ⟨-1, ev_neg c1 (ev_pos c2 (ev_ret _)), by omega, fun h => by omega⟩
    · rw [w64 (x := left - (c.size : Int) - (d.size : Int) - (e.size : Int)) (by omega) (by omega)]
      by_cases c3 : left - (c.size : Int) - (d.size : Int) - (e.size : Int) < 0
      · exact ⟨-1, ev_neg c1 (ev_neg c2 (ev_pos c3 (ev_ret _))), by omega, fun h => by omega⟩
      · obtain ⟨r, hr, hle, hx⟩ := szIntS_some f g5 (left - (c.size : Int) - (d.size : Int) - (e.size : Int)) (by omega) (by omega)
        by_cases c4 : r < 0
        · exact ⟨-1, ev_neg c1 (ev_neg c2 (ev_neg c3 (ev_bindc hr (ev_pos c4 (ev_ret _))))), by omega, fun h => by omega⟩
        · have := hx (by omega)
          exact ⟨r, ev_neg c1 (ev_neg c2 (ev_neg c3 (ev_bindc hr (ev_neg c4 (ev_ret _))))), by omega, fun h => by omega⟩
theorem szEntry_ev (x : S171) (hg : G171 x) (left : Int) (h0 : 0 ≤ left) (h1 : left ≤ 1048576) : ∃ r, Ev (fun _ => laws_szEntry.f x.f0 x.f1 x.f2 left) r ∧ r ≤ left ∧ (0 ≤ r → okEntry x) := by
  obtain ⟨a, b, c⟩ := x
  obtain ⟨g1, g2, _⟩ := hg
  have g1 : a.size ≤ 9223372036854775807 := g1
  have g2 : b.size ≤ 9223372036854775807 := g2
  simp only [laws_szEntry.f, okEntry]
  rw [w64 (x := left - (a.size : Int)) (by omega) (by omega)]
  by_cases c1 : left - (a.size : Int) < 0
  · exact ⟨-1, ev_pos c1 (ev_ret _), by omega, fun h => by omega⟩
  · rw [w64 (x := left - (a.size : Int) - (b.size : Int)) (by omega) (by omega)]
    by_cases c2 : left - (a.size : Int) - (b.size : Int) < 0
    · exact ⟨-1, ev_neg c1 (ev_pos c2 (ev_ret _)), by omega, fun h => by omega⟩
    · exact ⟨_, ev_neg c1 (ev_neg c2 (ev_ret _)), by omega, fun h => by omega⟩
theorem szNodeS_l0 (l : List S99) (hl : l.length ≤ 1048576) (hg : ∀ x ∈ l, G99 x) (n : Nat) : ∀ (left i : Int), 0 ≤ left → left ≤ 1048576 → 0 ≤ i → (l.length : Int) - i = n →
    ∃ r, Ev (fun k => laws_szNodeS.l0 k l left i) r ∧ r ≤ left ∧ (0 ≤ r → ∀ x ∈ l.drop i.toNat, okNode x) := by
  induction n with
  | zero =>
    intro left i h0 h1 hi hn
    refine ⟨left, ev_step ?_, Int.le_refl _, fun _ x hx => ?_⟩
    · simp only [laws_szNodeS.l0]
      exact ev_neg (by omega) (ev_ret _)
    · rw [drop_end hi (by omega)] at hx
      cases hx
  | succ n ih =>
    intro left i h0 h1 hi hn
    have hm : rdOf z99 l i ∈ l := rdOf_mem hi (by omega)
    obtain ⟨q, hq, hle, hx⟩ := szNode_ev (rdOf z99 l i) (hg _ hm) left h0 h1
    rw [drop_rd (d := z99) (l := l) hi (by omega)]
    have step : ∀ r, Ev (fun k => if q < 0 then (some (-1)) else (laws_szNodeS.l0 k l q (wrap64 (i + 1)))) r → Ev (fun k => laws_szNodeS.l0 k l left i) r := by
      intro r h
      refine ev_step ?_
      simp only [laws_szNodeS.l0]
      exact ev_pos (by omega) (ev_pos hi (Ev.bind hq h))
    rw [w64 (x := i + 1) (by omega) (by omega)] at step
    by_cases c : q < 0
    · exact ⟨-1, step _ (ev_pos c (ev_ret _)), by omega, fun h => by omega⟩
    · obtain ⟨r, hr, hle2, hx2⟩ := ih q (i + 1) (by omega) (by omega) (by omega) (by omega)
      refine ⟨r, step _ (ev_neg c hr), by omega, fun h x hm => ?_⟩
      rcases List.mem_cons.1 hm with rfl | hm
      · exact hx (by omega)
      · exact hx2 h x hm
theorem szNodeS_ev (l : List S99) (hg : GL G99 l) (left : Int) (h0 : 0 ≤ left) (h1 : left ≤ 1048576) :
    ∃ r, Ev (fun k => laws_szNodeS.f k l left) r ∧ r ≤ left ∧ (0 ≤ r → l.length ≤ 1048576 ∧ ∀ x ∈ l, okNode x) := by
  have hl : l.length ≤ 9223372036854775807 := hg.1
  unfold laws_szNodeS.f
  rw [w64 (x := left - (l.length : Int)) (by omega) (by omega)]
  by_cases c : left - (l.length : Int) < 0
  · exact ⟨-1, ev_pos c (ev_ret _), by omega, fun h => by omega⟩
  · obtain ⟨r, hr, hle, hx⟩ := szNodeS_l0 l (by omega) hg.2 l.length (left - l.length) 0 (by omega) (by omega) (by omega) (by omega)
    exact ⟨r, ev_neg c hr, by omega, fun h => ⟨by omega, fun x hm => hx h x (by simpa using hm)⟩⟩
theorem szEntryS_l0 (l : List S171) (hl : l.length ≤ 1048576) (hg : ∀ x ∈ l, G171 x) (n : Nat) : ∀ (left i : Int), 0 ≤ left → left ≤ 1048576 → 0 ≤ i → (l.length : Int) - i = n →
    ∃ r, Ev (fun k => laws_szEntryS.l0 k l left i) r ∧ r ≤ left ∧ (0 ≤ r → ∀ x ∈ l.drop i.toNat, okEntry x) := by
  induction n with
  | zero =>
    intro left i h0 h1 hi hn
    refine ⟨left, ev_step ?_, Int.le_refl _, fun _ x hx => ?_⟩
    · simp only [laws_szEntryS.l0]
      exact ev_neg (by omega) (ev_ret _)
    · rw [drop_end hi (by omega)] at hx
      cases hx
  | succ n ih =>
    intro left i h0 h1 hi hn
    have hm : rdOf z171 l i ∈ l := rdOf_mem hi (by omega)
    obtain ⟨q, hq, hle, hx⟩ := szEntry_ev (rdOf z171 l i) (hg _ hm) left h0 h1
    rw [drop_rd (d := z171) (l := l) hi (by omega)]
    have step : ∀ r, Ev (fun k => if q < 0 then (some (-1)) else (laws_szEntryS.l0 k l q (wrap64 (i + 1)))) r → Ev (fun k => laws_szEntryS.l0 k l left i) r := by
      intro r h
      refine ev_step ?_
      simp only [laws_szEntryS.l0]
      exact ev_pos (by omega) (ev_pos hi (Ev.bind hq h))
    rw [w64 (x := i + 1) (by omega) (by omega)] at step
    by_cases c : q < 0
    · exact ⟨-1, step _ (ev_pos c (ev_ret _)), by omega, fun h => by omega⟩
    · obtain ⟨r, hr, hle2, hx2⟩ := ih q (i + 1) (by omega) (by omega) (by omega) (by omega)
      refine ⟨r, step _ (ev_neg c hr), by omega, fun h x hm => ?_⟩
      rcases List.mem_cons.1 hm with rfl | hm
      · exact hx (by omega)
      · exact hx2 h x hm
theorem szEntryS_ev (l : List S171) (hg : GL G171 l) (left : Int) (h0 : 0 ≤ left) (h1 : left ≤ 1048576) :
    ∃ r, Ev (fun k => laws_szEntryS.f k l left) r ∧ r ≤ left ∧ (0 ≤ r → l.length ≤ 1048576 ∧ ∀ x ∈ l, okEntry x) := by
  have hl : l.length ≤ 9223372036854775807 := hg.1
  unfold laws_szEntryS.f
  rw [w64 (x := left - (l.length : Int)) (by omega) (by omega)]
  by_cases c : left - (l.length : Int) < 0
  · exact ⟨-1, ev_pos c (ev_ret _), by omega, fun h => by omega⟩
  · obtain ⟨r, hr, hle, hx⟩ := szEntryS_l0 l (by omega) hg.2 l.length (left - l.length) 0 (by omega) (by omega) (by omega) (by omega)
    exact ⟨r, ev_neg c hr, by omega, fun h => ⟨by omega, fun x hm => hx h x (by simpa using hm)⟩⟩
theorem szStrs_ok {l : List ByteArray} {left : Int} (h1 : left ≤ 1048576) (h : (l.length : Int) ≤ left ∧ ∀ x ∈ l, (x.size : Int) ≤ left) : l.length ≤ 1048576 ∧ ∀ s ∈ l, s.size ≤ 1048576 := by
  refine ⟨by omega, fun s hs => ?_⟩
  have := h.2 s hs
  omega
theorem szMonitor_ev (x : S103) (hg : G103 x) (left : Int) (h0 : 0 ≤ left) (h1 : left ≤ 1048576) : ∃ r, Ev (fun k => laws_szMonitor.f k x.f0 x.f1 x.f2 x.f3 left) r ∧ r ≤ left ∧ (0 ≤ r → okMonitor x) := by
  obtain ⟨a, b, c, d⟩ := x
  obtain ⟨g0, ⟨g1, g1'⟩, ⟨g2, g2'⟩, g3⟩ := hg
  have g0 : a.size ≤ 9223372036854775807 := g0
  simp only [laws_szMonitor.f, okMonitor]
  rw [w64 (x := left - (a.size : Int)) (by omega) (by omega)]
  by_cases c1 : left - (a.size : Int) < 0
  · exact ⟨-1, ev_pos c1 (ev_ret _), by omega, fun h => by omega⟩
  · obtain ⟨p, hp, hple, hpx⟩ := szStringS_ev b g1 g1' (left - (a.size : Int)) (by omega) (by omega)
    by_cases c2 : p < 0
    · exact ⟨-1, ev_neg c1 (Ev.bind hp (ev_pos c2 (ev_ret _))), by omega, fun h => by omega⟩
    · obtain ⟨q, hq, hqle, hqx⟩ := szStringS_ev c g2 g2' p (by omega) (by omega)
      by_cases c3 : q < 0
      · exact ⟨-1, ev_neg c1 (Ev.bind hp (ev_neg c2 (Ev.bind hq (ev_pos c3 (ev_ret _))))), by omega, fun h => by omega⟩
      · obtain ⟨r, hr, hrle, hrx⟩ := szEntryS_ev d g3 q (by omega) (by omega)
        by_cases c4 : r < 0
        · exact ⟨-1, ev_neg c1 (Ev.bind hp (ev_neg c2 (Ev.bind hq (ev_neg c3 (Ev.bind hr (ev_pos c4 (ev_ret _))))))), by omega, fun h => by omega⟩
        · refine ⟨r, ev_neg c1 (Ev.bind hp (ev_neg c2 (Ev.bind hq (ev_neg c3 (Ev.bind hr (ev_neg c4 (ev_ret _))))))), by omega, fun h => ?_⟩
          obtain ⟨e1, e2⟩ := szStrs_ok (by omega) (hpx (by omega))
          obtain ⟨e3, e4⟩ := szStrs_ok (by omega) (hqx (by omega))
          obtain ⟨e5, e6⟩ := hrx (by omega)
          exact ⟨by omega, e1, e2, e3, e4, e5, e6⟩
theorem szProcess_ev (x : S106) (hg : G106 x) (left : Int) (h0 : 0 ≤ left) (h1 : left ≤ 1048576) : ∃ r, Ev (fun k => laws_szProcess.f k x.f0 x.f1 x.f2 x.f3 left) r ∧ r ≤ left ∧ (0 ≤ r → okProcess x) := by
  obtain ⟨a, b, c, d⟩ := x
  obtain ⟨g0, ⟨g1, g1'⟩, ⟨g2, g2'⟩, _⟩ := hg
  have g0 : a.size ≤ 9223372036854775807 := g0
  simp only [laws_szProcess.f, okProcess]
  rw [w64 (x := left - (a.size : Int)) (by omega) (by omega)]
  by_cases c1 : left - (a.size : Int) < 0
  · exact ⟨-1, ev_pos c1 (ev_ret _), by omega, fun h => by omega⟩
  · obtain ⟨p, hp, hple, hpx⟩ := szStringS_ev b g1 g1' (left - (a.size : Int)) (by omega) (by omega)
    by_cases c2 : p < 0
    · exact ⟨-1, ev_neg c1 (Ev.bind hp (ev_pos c2 (ev_ret _))), by omega, fun h => by omega⟩
    · obtain ⟨q, hq, hqle, hqx⟩ := szStringS_ev c g2 g2' p (by omega) (by omega)
      by_cases c3 : q < 0
      · exact ⟨-1, ev_neg c1 (Ev.bind hp (ev_neg c2 (Ev.bind hq (ev_pos c3 (ev_ret _))))), by omega, fun h => by omega⟩
      · refine ⟨q, ev_neg c1 (Ev.bind hp (ev_neg c2 (Ev.bind hq (ev_neg c3 (ev_ret _))))), by omega, fun h => ?_⟩
        obtain ⟨e1, e2⟩ := szStrs_ok (by omega) (hpx (by omega))
        obtain ⟨e3, e4⟩ := szStrs_ok (by omega) (hqx (by omega))
        exact ⟨by omega, e1, e2, e3, e4⟩
theorem szMonitorS_l0 (l : List S103) (hl : l.length ≤ 1048576) (hg : ∀ x ∈ l, G103 x) (n : Nat) : ∀ (left i : Int), 0 ≤ left → left ≤ 1048576 → 0 ≤ i → (l.length : Int) - i = n →
    ∃ r, Ev (fun k => laws_szMonitorS.l0 k l left i) r ∧ r ≤ left ∧ (0 ≤ r → ∀ x ∈ l.drop i.toNat, okMonitor x) := by
  induction n with
  | zero =>
    intro left i h0 h1 hi hn
    refine ⟨left, ev_step ?_, Int.le_refl _, fun _ x hx => ?_⟩
    · simp only [laws_szMonitorS.l0]
      exact ev_neg (by omega) (ev_ret _)
    · rw [drop_end hi (by omega)] at hx
      cases hx
  | succ n ih =>
    intro left i h0 h1 hi hn
    have hm : rdOf z103 l i ∈ l := rdOf_mem hi (by omega)
    obtain ⟨q, hq, hle, hx⟩ := szMonitor_ev (rdOf z103 l i) (hg _ hm) left h0 h1
    rw [drop_rd (d := z103) (l := l) hi (by omega)]
    have step : ∀ r, Ev (fun k => if q < 0 then (some (-1)) else (laws_szMonitorS.l0 k l q (wrap64 (i + 1)))) r → Ev (fun k => laws_szMonitorS.l0 k l left i) r := by
      intro r h
      refine ev_step ?_
      simp only [laws_szMonitorS.l0]
      exact ev_pos (by omega) (ev_pos hi (Ev.bind hq h))
    rw [w64 (x := i + 1) (by omega) (by omega)] at step
    by_cases c : q < 0
    · exact ⟨-1, step _ (ev_pos c (ev_ret _)), by omega, fun h => by omega⟩
    · obtain ⟨r, hr, hle2, hx2⟩ := ih q (i + 1) (by omega) (by omega) (by omega) (by omega)
      refine ⟨r, step _ (ev_neg c hr), by omega, fun h x hm => ?_⟩
      rcases List.mem_cons.1 hm with rfl | hm
      · exact hx (by omega)
      · exact hx2 h x hm
theorem szMonitorS_ev (l : List S103) (hg : GL G103 l) (left : Int) (h0 : 0 ≤ left) (h1 : left ≤ 1048576) :
    ∃ r, Ev (fun k => laws_szMonitorS.f k l left) r ∧ r ≤ left ∧ (0 ≤ r → l.length ≤ 1048576 ∧ ∀ x ∈ l, okMonitor x) := by
  have hl : l.length ≤ 9223372036854775807 := hg.1
  unfold laws_szMonitorS.f
  rw [w64 (x := left - (l.length : Int)) (by omega) (by omega)]
  by_cases c : left - (l.length : Int) < 0
  · exact ⟨-1, ev_pos c (ev_ret _), by omega, fun h => by omega⟩
  · obtain ⟨r, hr, hle, hx⟩ := szMonitorS_l0 l (by omega) hg.2 l.length (left - l.length) 0 (by omega) (by omega) (by omega) (by omega)
    exact ⟨r, ev_neg c hr, by omega, fun h => ⟨by omega, fun x hm => hx h x (by simpa using hm)⟩⟩
theorem szProcessS_l0 (l : List S106) (hl : l.length ≤ 1048576) (hg : ∀ x ∈ l, G106 x) (n : Nat) : ∀ (left i : Int), 0 ≤ left → left ≤ 1048576 → 0 ≤ i → (l.length : Int) - i = n →
    ∃ r, Ev (fun k => laws_szProcessS.l0 k l left i) r ∧ r ≤ left ∧ (0 ≤ r → ∀ x ∈ l.drop i.toNat, okProcess x) := by
  induction n with
  | zero =>
    intro left i h0 h1 hi hn
    refine ⟨left, ev_step ?_, Int.le_refl _, fun _ x hx => ?_⟩
    · simp only [laws_szProcessS.l0]
      exact ev_neg (by omega) (ev_ret _)
    · rw [drop_end hi (by omega)] at hx
      cases hx
  | succ n ih =>
    intro left i h0 h1 hi hn
    have hm : rdOf z106 l i ∈ l := rdOf_mem hi (by omega)
    obtain ⟨q, hq, hle, hx⟩ := szProcess_ev (rdOf z106 l i) (hg _ hm) left h0 h1
    rw [drop_rd (d := z106) (l := l) hi (by omega)]
    have step : ∀ r, Ev (fun k => if q < 0 then (some (-1)) else (laws_szProcessS.l0 k l q (wrap64 (i + 1)))) r → Ev (fun k => laws_szProcessS.l0 k l left i) r := by
      intro r h
      refine ev_step ?_
      simp only [laws_szProcessS.l0]
      exact ev_pos (by omega) (ev_pos hi (Ev.bind hq h))
    rw [w64 (x := i + 1) (by omega) (by omega)] at step
    by_cases c : q < 0
    · exact ⟨-1, step _ (ev_pos c (ev_ret _)), by omega, fun h => by omega⟩
    · obtain ⟨r, hr, hle2, hx2⟩ := ih q (i + 1) (by omega) (by omega) (by omega) (by omega)
      refine ⟨r, step _ (ev_neg c hr), by omega, fun h x hm => ?_⟩
      rcases List.mem_cons.1 hm with rfl | hm
      · exact hx (by omega)
      · exact hx2 h x hm
theorem szProcessS_ev (l : List S106) (hg : GL G106 l) (left : Int) (h0 : 0 ≤ left) (h1 : left ≤ 1048576) :
    ∃ r, Ev (fun k => laws_szProcessS.f k l left) r ∧ r ≤ left ∧ (0 ≤ r → l.length ≤ 1048576 ∧ ∀ x ∈ l, okProcess x) := by
  have hl : l.length ≤ 9223372036854775807 := hg.1
  unfold laws_szProcessS.f
  rw [w64 (x := left - (l.length : Int)) (by omega) (by omega)]
  by_cases c : left - (l.length : Int) < 0
  · exact ⟨-1, ev_pos c (ev_ret _), by omega, fun h => by omega⟩
  · obtain ⟨r, hr, hle, hx⟩ := szProcessS_l0 l (by omega) hg.2 l.length (left - l.length) 0 (by omega) (by omega) (by omega) (by omega)
    exact ⟨r, ev_neg c hr, by omega, fun h => ⟨by omega, fun x hm => hx h x (by simpa using hm)⟩⟩
def okProg (a : List S99) (b : List S103) (c : List S106) : Prop := (a.length ≤ 1048576 ∧ ∀ x ∈ a, okNode x) ∧ (b.length ≤ 1048576 ∧ ∀ x ∈ b, okMonitor x) ∧ (c.length ≤ 1048576 ∧ ∀ x ∈ c, okProcess x)
theorem szProgram_ev (a : List S99) (b : List S103) (c : List S106) (ga : GL G99 a) (gb : GL G103 b) (gc : GL G106 c) (left : Int) (h0 : 0 ≤ left) (h1 : left ≤ 1048576) :
    ∃ r, Ev (fun k => laws_szProgram.f k a b c left) r ∧ r ≤ left ∧ (0 ≤ r → okProg a b c) := by
  unfold laws_szProgram.f
  obtain ⟨p, hp, hple, hpx⟩ := szNodeS_ev a ga left h0 h1
  by_cases c1 : p < 0
  · exact ⟨-1, Ev.bind hp (ev_pos c1 (ev_ret _)), by omega, fun h => by omega⟩
  · obtain ⟨q, hq, hqle, hqx⟩ := szMonitorS_ev b gb p (by omega) (by omega)
    by_cases c2 : q < 0
    · exact ⟨-1, Ev.bind hp (ev_neg c1 (Ev.bind hq (ev_pos c2 (ev_ret _)))), by omega, fun h => by omega⟩
    · obtain ⟨r, hr, hrle, hrx⟩ := szProcessS_ev c gc q (by omega) (by omega)
      by_cases c3 : r < 0
      · exact ⟨-1, Ev.bind hp (ev_neg c1 (Ev.bind hq (ev_neg c2 (Ev.bind hr (ev_pos c3 (ev_ret _)))))), by omega, fun h => by omega⟩
      · exact ⟨r, Ev.bind hp (ev_neg c1 (Ev.bind hq (ev_neg c2 (Ev.bind hr (ev_neg c3 (ev_ret _)))))), by omega, fun h => ⟨hpx (by omega), hqx (by omega), hrx (by omega)⟩⟩

theorem toStringS_l0 (src : List ByteArray) (hl : src.length ≤ 1048576) (n : Nat) : ∀ (acc : List ByteArray) (i : Int), 0 ≤ i → (src.length : Int) - i = n → acc.length = src.length → acc.take i.toNat = src.take i.toNat → Ev (fun k => laws_toStringS.l0 k src acc i) src := by
  induction n with
  | zero =>
    intro acc i h0 hn ha ht
    refine ev_step ?_
    simp only [laws_toStringS.l0]
    exact ev_neg (by omega) (ev_eq (copy_end h0 (by omega) ha ht) (ev_ret _))
  | succ n ih =>
    intro acc i h0 hn ha ht
    refine ev_step ?_
    simp only [laws_toStringS.l0]
    obtain ⟨h2, h3⟩ := copy_step ByteArray.empty h0 (by omega) ha ht
    refine ev_pos (by omega) (ev_pos h0 (ev_pos (by omega) ?_))
    rw [w64 (x := i + 1) (by omega) (by omega)]
    exact ih _ (i + 1) (by omega) (by omega) h2 h3
theorem toStringS_ev (src : List ByteArray) (hl : src.length ≤ 1048576) : Ev (fun k => laws_toStringS.f k src) src := by
  unfold laws_toStringS.f
  exact ev_pos (by omega) (ev_pos (by omega) (toStringS_l0 src hl src.length _ 0 (by omega) (by omega) (by simp) rfl))

theorem toIntS_l0 (src : List Int) (hl : src.length ≤ 1048576) (n : Nat) : ∀ (acc : List Int) (i : Int), 0 ≤ i → (src.length : Int) - i = n → acc.length = src.length → acc.take i.toNat = src.take i.toNat → Ev (fun k => laws_toIntS.l0 k src acc i) src := by
  induction n with
  | zero =>
    intro acc i h0 hn ha ht
    refine ev_step ?_
    simp only [laws_toIntS.l0]
    exact ev_neg (by omega) (ev_eq (copy_end h0 (by omega) ha ht) (ev_ret _))
  | succ n ih =>
    intro acc i h0 hn ha ht
    refine ev_step ?_
    simp only [laws_toIntS.l0, rd_rdOf]
    obtain ⟨h2, h3⟩ := copy_step 0 h0 (by omega) ha ht
    refine ev_pos (by omega) (ev_pos h0 (ev_pos (by omega) ?_))
    rw [w64 (x := i + 1) (by omega) (by omega)]
    exact ih _ (i + 1) (by omega) (by omega) h2 h3
theorem toIntS_ev (src : List Int) (hl : src.length ≤ 1048576) : Ev (fun k => laws_toIntS.f k src) src := by
  unfold laws_toIntS.f
  exact ev_pos (by omega) (ev_pos (by omega) (toIntS_l0 src hl src.length _ 0 (by omega) (by omega) (by simp) rfl))

def cNode (x : S99) : S71 := ⟨x.f0, x.f1, x.f2, x.f3, x.f4, x.f5⟩
def cEntry (x : S171) : S113 := ⟨x.f0, x.f1, x.f2⟩
def cMonitor (x : S103) : S111 := ⟨x.f0, x.f1, x.f2, x.f3.map cEntry⟩
def cProcess (x : S106) : S115 := ⟨x.f0, x.f1, x.f2, x.f3⟩
theorem toNode_ev (x : S99) (h : okNode x) : Ev (fun k => laws_toNode.f k x.f0 x.f1 x.f2 x.f3 x.f4 x.f5) (x.f0, x.f1, x.f2, x.f3, x.f4, x.f5) := by
  unfold laws_toNode.f
  exact Ev.bind (toIntS_ev _ h.2.2.2) (ev_ret _)
theorem toEntry_ev (x : S171) (h : okEntry x) : Ev (fun _ => laws_toEntry.f x.f0 x.f1 x.f2) (x.f0, x.f1, x.f2) := by
  unfold laws_toEntry.f
  exact ev_ret _
theorem toProcess_ev (x : S106) (h : okProcess x) : Ev (fun k => laws_toProcess.f k x.f0 x.f1 x.f2 x.f3) (x.f0, x.f1, x.f2, x.f3) := by
  unfold laws_toProcess.f
  exact Ev.bind (toStringS_ev _ h.2.1) (Ev.bind (toStringS_ev _ h.2.2.2.1) (ev_ret _))
theorem toNodeS_l0 (l : List S99) (hl : l.length ≤ 1048576) (hk : ∀ x ∈ l, okNode x) (n : Nat) : ∀ (acc : List S71) (i : Int), 0 ≤ i → (l.length : Int) - i = n → acc.length = (l.map cNode).length → acc.take i.toNat = (l.map cNode).take i.toNat → Ev (fun k => laws_toNodeS.l0 k l acc i) (l.map cNode) := by
  have hlm : (l.map cNode).length = l.length := List.length_map ..
  induction n with
  | zero =>
    intro acc i h0 hn ha ht
    refine ev_step ?_
    simp only [laws_toNodeS.l0]
    exact ev_neg (by omega) (ev_eq (copy_end h0 (by omega) ha ht) (ev_ret _))
  | succ n ih =>
    intro acc i h0 hn ha ht
    refine ev_step ?_
    simp only [laws_toNodeS.l0]
    have hm : rdOf z99 l i ∈ l := rdOf_mem h0 (by omega)
    obtain ⟨h2, h3⟩ := copy_step z71 h0 (by omega) ha ht
    have hv : rdOf z71 (l.map cNode) i = cNode (rdOf z99 l i) := by
      unfold rdOf
      rw [List.getD_eq_getElem?_getD, List.getD_eq_getElem?_getD, List.getElem?_map, List.getElem?_eq_getElem (show i.toNat < l.length by omega)]
      rfl
    rw [hv] at h2 h3
    refine ev_pos (by omega) (ev_pos h0 (Ev.bind (toNode_ev (rdOf z99 l i) (hk _ hm)) (ev_pos (by omega) ?_)))
    rw [w64 (x := i + 1) (by omega) (by omega)]
    exact ih _ (i + 1) (by omega) (by omega) h2 h3
theorem toNodeS_ev (l : List S99) (hl : l.length ≤ 1048576) (hk : ∀ x ∈ l, okNode x) : Ev (fun k => laws_toNodeS.f k l) (l.map cNode) := by
  unfold laws_toNodeS.f
  exact ev_pos (by omega) (ev_pos (by omega) (toNodeS_l0 l hl hk l.length _ 0 (by omega) (by omega) (by simp) rfl))
theorem toEntryS_l0 (l : List S171) (hl : l.length ≤ 1048576) (hk : ∀ x ∈ l, okEntry x) (n : Nat) : ∀ (acc : List S113) (i : Int), 0 ≤ i → (l.length : Int) - i = n → acc.length = (l.map cEntry).length → acc.take i.toNat = (l.map cEntry).take i.toNat → Ev (fun k => laws_toEntryS.l0 k l acc i) (l.map cEntry) := by
  have hlm : (l.map cEntry).length = l.length := List.length_map ..
  induction n with
  | zero =>
    intro acc i h0 hn ha ht
    refine ev_step ?_
    simp only [laws_toEntryS.l0]
    exact ev_neg (by omega) (ev_eq (copy_end h0 (by omega) ha ht) (ev_ret _))
  | succ n ih =>
    intro acc i h0 hn ha ht
    refine ev_step ?_
    simp only [laws_toEntryS.l0]
    have hm : rdOf z171 l i ∈ l := rdOf_mem h0 (by omega)
    obtain ⟨h2, h3⟩ := copy_step z113 h0 (by omega) ha ht
    have hv : rdOf z113 (l.map cEntry) i = cEntry (rdOf z171 l i) := by
      unfold rdOf
      rw [List.getD_eq_getElem?_getD, List.getD_eq_getElem?_getD, List.getElem?_map, List.getElem?_eq_getElem (show i.toNat < l.length by omega)]
      rfl
    rw [hv] at h2 h3
    refine ev_pos (by omega) (ev_pos h0 (Ev.bind (toEntry_ev (rdOf z171 l i) (hk _ hm)) (ev_pos (by omega) ?_)))
    rw [w64 (x := i + 1) (by omega) (by omega)]
    exact ih _ (i + 1) (by omega) (by omega) h2 h3
theorem toEntryS_ev (l : List S171) (hl : l.length ≤ 1048576) (hk : ∀ x ∈ l, okEntry x) : Ev (fun k => laws_toEntryS.f k l) (l.map cEntry) := by
  unfold laws_toEntryS.f
  exact ev_pos (by omega) (ev_pos (by omega) (toEntryS_l0 l hl hk l.length _ 0 (by omega) (by omega) (by simp) rfl))
theorem toMonitor_ev (x : S103) (h : okMonitor x) : Ev (fun k => laws_toMonitor.f k x.f0 x.f1 x.f2 x.f3) (x.f0, x.f1, x.f2, x.f3.map cEntry) := by
  unfold laws_toMonitor.f
  exact Ev.bind (toStringS_ev _ h.2.1) (Ev.bind (toStringS_ev _ h.2.2.2.1) (Ev.bind (toEntryS_ev _ h.2.2.2.2.2.1 h.2.2.2.2.2.2) (ev_ret _)))
theorem toMonitorS_l0 (l : List S103) (hl : l.length ≤ 1048576) (hk : ∀ x ∈ l, okMonitor x) (n : Nat) : ∀ (acc : List S111) (i : Int), 0 ≤ i → (l.length : Int) - i = n → acc.length = (l.map cMonitor).length → acc.take i.toNat = (l.map cMonitor).take i.toNat → Ev (fun k => laws_toMonitorS.l0 k l acc i) (l.map cMonitor) := by
  have hlm : (l.map cMonitor).length = l.length := List.length_map ..
  induction n with
  | zero =>
    intro acc i h0 hn ha ht
    refine ev_step ?_
    simp only [laws_toMonitorS.l0]
    exact ev_neg (by omega) (ev_eq (copy_end h0 (by omega) ha ht) (ev_ret _))
  | succ n ih =>
    intro acc i h0 hn ha ht
    refine ev_step ?_
    simp only [laws_toMonitorS.l0]
    have hm : rdOf z103 l i ∈ l := rdOf_mem h0 (by omega)
    obtain ⟨h2, h3⟩ := copy_step z111 h0 (by omega) ha ht
    have hv : rdOf z111 (l.map cMonitor) i = cMonitor (rdOf z103 l i) := by
      unfold rdOf
      rw [List.getD_eq_getElem?_getD, List.getD_eq_getElem?_getD, List.getElem?_map, List.getElem?_eq_getElem (show i.toNat < l.length by omega)]
      rfl
    rw [hv] at h2 h3
    refine ev_pos (by omega) (ev_pos h0 (Ev.bind (toMonitor_ev (rdOf z103 l i) (hk _ hm)) (ev_pos (by omega) ?_)))
    rw [w64 (x := i + 1) (by omega) (by omega)]
    exact ih _ (i + 1) (by omega) (by omega) h2 h3
theorem toMonitorS_ev (l : List S103) (hl : l.length ≤ 1048576) (hk : ∀ x ∈ l, okMonitor x) : Ev (fun k => laws_toMonitorS.f k l) (l.map cMonitor) := by
  unfold laws_toMonitorS.f
  exact ev_pos (by omega) (ev_pos (by omega) (toMonitorS_l0 l hl hk l.length _ 0 (by omega) (by omega) (by simp) rfl))
theorem toProcessS_l0 (l : List S106) (hl : l.length ≤ 1048576) (hk : ∀ x ∈ l, okProcess x) (n : Nat) : ∀ (acc : List S115) (i : Int), 0 ≤ i → (l.length : Int) - i = n → acc.length = (l.map cProcess).length → acc.take i.toNat = (l.map cProcess).take i.toNat → Ev (fun k => laws_toProcessS.l0 k l acc i) (l.map cProcess) := by
  have hlm : (l.map cProcess).length = l.length := List.length_map ..
  induction n with
  | zero =>
    intro acc i h0 hn ha ht
    refine ev_step ?_
    simp only [laws_toProcessS.l0]
    exact ev_neg (by omega) (ev_eq (copy_end h0 (by omega) ha ht) (ev_ret _))
  | succ n ih =>
    intro acc i h0 hn ha ht
    refine ev_step ?_
    simp only [laws_toProcessS.l0]
    have hm : rdOf z106 l i ∈ l := rdOf_mem h0 (by omega)
    obtain ⟨h2, h3⟩ := copy_step z115 h0 (by omega) ha ht
    have hv : rdOf z115 (l.map cProcess) i = cProcess (rdOf z106 l i) := by
      unfold rdOf
      rw [List.getD_eq_getElem?_getD, List.getD_eq_getElem?_getD, List.getElem?_map, List.getElem?_eq_getElem (show i.toNat < l.length by omega)]
      rfl
    rw [hv] at h2 h3
    refine ev_pos (by omega) (ev_pos h0 (Ev.bind (toProcess_ev (rdOf z106 l i) (hk _ hm)) (ev_pos (by omega) ?_)))
    rw [w64 (x := i + 1) (by omega) (by omega)]
    exact ih _ (i + 1) (by omega) (by omega) h2 h3
theorem toProcessS_ev (l : List S106) (hl : l.length ≤ 1048576) (hk : ∀ x ∈ l, okProcess x) : Ev (fun k => laws_toProcessS.f k l) (l.map cProcess) := by
  unfold laws_toProcessS.f
  exact ev_pos (by omega) (ev_pos (by omega) (toProcessS_l0 l hl hk l.length _ 0 (by omega) (by omega) (by simp) rfl))
theorem toProgram_ev (a : List S99) (b : List S103) (c : List S106) (h : okProg a b c) : Ev (fun k => laws_toProgram.f k a b c) (a.map cNode, b.map cMonitor, c.map cProcess) := by
  unfold laws_toProgram.f
  exact Ev.bind (toNodeS_ev _ h.1.1 h.1.2) (Ev.bind (toMonitorS_ev _ h.2.1.1 h.2.1.2) (Ev.bind (toProcessS_ev _ h.2.2.1 h.2.2.2) (ev_ret _)))

theorem eqStringS_l0 (l : List ByteArray) (hl : l.length ≤ 9223372036854775807) (n : Nat) : ∀ i : Int, 0 ≤ i → (l.length : Int) - i = n → Ev (fun k => laws_eqStringS.l0 k l l i) true := by
  induction n with
  | zero =>
    intro i h0 hn
    refine ev_step ?_
    simp only [laws_eqStringS.l0]
    exact ev_neg (by omega) (ev_ret _)
  | succ n ih =>
    intro i h0 hn
    refine ev_step ?_
    simp only [laws_eqStringS.l0]
    refine ev_pos (by omega) (ev_pos h0 (ev_pos (by omega) (ev_pos (by simp) ?_)))
    rw [w64 (x := i + 1) (by omega) (by omega)]
    exact ih (i + 1) (by omega) (by omega)
theorem eqStringS_ev (l : List ByteArray) (hl : l.length ≤ 9223372036854775807) : Ev (fun k => laws_eqStringS.f k l l) true := by
  unfold laws_eqStringS.f
  exact ev_pos rfl (eqStringS_l0 l hl l.length 0 (by omega) (by omega))

theorem eqIntS_l0 (l : List Int) (hl : l.length ≤ 9223372036854775807) (n : Nat) : ∀ i : Int, 0 ≤ i → (l.length : Int) - i = n → Ev (fun k => laws_eqIntS.l0 k l l i) true := by
  induction n with
  | zero =>
    intro i h0 hn
    refine ev_step ?_
    simp only [laws_eqIntS.l0]
    exact ev_neg (by omega) (ev_ret _)
  | succ n ih =>
    intro i h0 hn
    refine ev_step ?_
    simp only [laws_eqIntS.l0]
    refine ev_pos (by omega) (ev_pos h0 (ev_pos (by omega) (ev_pos (by simp) ?_)))
    rw [w64 (x := i + 1) (by omega) (by omega)]
    exact ih (i + 1) (by omega) (by omega)
theorem eqIntS_ev (l : List Int) (hl : l.length ≤ 9223372036854775807) : Ev (fun k => laws_eqIntS.f k l l) true := by
  unfold laws_eqIntS.f
  exact ev_pos rfl (eqIntS_l0 l hl l.length 0 (by omega) (by omega))

def fitNode (x : S71) : Prop := x.f5.length ≤ 9223372036854775807
def fitEntry (_ : S113) : Prop := True
def fitMonitor (x : S111) : Prop := x.f1.length ≤ 9223372036854775807 ∧ x.f2.length ≤ 9223372036854775807 ∧ x.f3.length ≤ 9223372036854775807
def fitProcess (x : S115) : Prop := x.f1.length ≤ 9223372036854775807 ∧ x.f2.length ≤ 9223372036854775807
theorem eqNode_ev (x : S71) (h : fitNode x) : Ev (fun k => laws_eqNode.f k x.f0 x.f1 x.f2 x.f3 x.f4 x.f5 x.f0 x.f1 x.f2 x.f3 x.f4 x.f5) true := by
  unfold laws_eqNode.f
  exact ev_pos rfl (ev_pos rfl (ev_pos rfl (ev_pos rfl (ev_pos rfl (Ev.bind (eqIntS_ev _ h) (ev_pos rfl (ev_ret _)))))))
theorem eqEntry_ev (x : S113) (h : fitEntry x) : Ev (fun _ => laws_eqEntry.f x.f0 x.f1 x.f2 x.f0 x.f1 x.f2) true := by
  unfold laws_eqEntry.f
  exact ev_pos rfl (ev_pos rfl (ev_pos rfl (ev_ret _)))
theorem eqProcess_ev (x : S115) (h : fitProcess x) : Ev (fun k => laws_eqProcess.f k x.f0 x.f1 x.f2 x.f3 x.f0 x.f1 x.f2 x.f3) true := by
  unfold laws_eqProcess.f
  exact ev_pos rfl (Ev.bind (eqStringS_ev _ h.1) (ev_pos rfl (Ev.bind (eqStringS_ev _ h.2) (ev_pos rfl (ev_pos rfl (ev_ret _))))))
theorem eqNodeS_l0 (l : List S71) (hl : l.length ≤ 9223372036854775807) (hk : ∀ x ∈ l, fitNode x) (n : Nat) : ∀ i : Int, 0 ≤ i → (l.length : Int) - i = n → Ev (fun k => laws_eqNodeS.l0 k l l i) true := by
  induction n with
  | zero =>
    intro i h0 hn
    refine ev_step ?_
    simp only [laws_eqNodeS.l0]
    exact ev_neg (by omega) (ev_ret _)
  | succ n ih =>
    intro i h0 hn
    refine ev_step ?_
    simp only [laws_eqNodeS.l0]
    have hm : rdOf z71 l i ∈ l := rdOf_mem h0 (by omega)
    refine ev_pos (by omega) (ev_pos h0 (ev_pos (by omega) (Ev.bind (eqNode_ev (rdOf z71 l i) (hk _ hm)) (ev_pos rfl ?_))))
    rw [w64 (x := i + 1) (by omega) (by omega)]
    exact ih (i + 1) (by omega) (by omega)
theorem eqNodeS_ev (l : List S71) (hl : l.length ≤ 9223372036854775807) (hk : ∀ x ∈ l, fitNode x) : Ev (fun k => laws_eqNodeS.f k l l) true := by
  unfold laws_eqNodeS.f
  exact ev_pos rfl (eqNodeS_l0 l hl hk l.length 0 (by omega) (by omega))
theorem eqEntryS_l0 (l : List S113) (hl : l.length ≤ 9223372036854775807) (hk : ∀ x ∈ l, fitEntry x) (n : Nat) : ∀ i : Int, 0 ≤ i → (l.length : Int) - i = n → Ev (fun k => laws_eqEntryS.l0 k l l i) true := by
  induction n with
  | zero =>
    intro i h0 hn
    refine ev_step ?_
    simp only [laws_eqEntryS.l0]
    exact ev_neg (by omega) (ev_ret _)
  | succ n ih =>
    intro i h0 hn
    refine ev_step ?_
    simp only [laws_eqEntryS.l0]
    have hm : rdOf z113 l i ∈ l := rdOf_mem h0 (by omega)
    refine ev_pos (by omega) (ev_pos h0 (ev_pos (by omega) (Ev.bind (eqEntry_ev (rdOf z113 l i) (hk _ hm)) (ev_pos rfl ?_))))
    rw [w64 (x := i + 1) (by omega) (by omega)]
    exact ih (i + 1) (by omega) (by omega)
theorem eqEntryS_ev (l : List S113) (hl : l.length ≤ 9223372036854775807) (hk : ∀ x ∈ l, fitEntry x) : Ev (fun k => laws_eqEntryS.f k l l) true := by
  unfold laws_eqEntryS.f
  exact ev_pos rfl (eqEntryS_l0 l hl hk l.length 0 (by omega) (by omega))
theorem eqMonitor_ev (x : S111) (h : fitMonitor x) : Ev (fun k => laws_eqMonitor.f k x.f0 x.f1 x.f2 x.f3 x.f0 x.f1 x.f2 x.f3) true := by
  unfold laws_eqMonitor.f
  exact ev_pos rfl (Ev.bind (eqStringS_ev _ h.1) (ev_pos rfl (Ev.bind (eqStringS_ev _ h.2.1) (ev_pos rfl (Ev.bind (eqEntryS_ev _ h.2.2 (fun _ _ => trivial)) (ev_pos rfl (ev_ret _)))))))
theorem eqMonitorS_l0 (l : List S111) (hl : l.length ≤ 9223372036854775807) (hk : ∀ x ∈ l, fitMonitor x) (n : Nat) : ∀ i : Int, 0 ≤ i → (l.length : Int) - i = n → Ev (fun k => laws_eqMonitorS.l0 k l l i) true := by
  induction n with
  | zero =>
    intro i h0 hn
    refine ev_step ?_
    simp only [laws_eqMonitorS.l0]
    exact ev_neg (by omega) (ev_ret _)
  | succ n ih =>
    intro i h0 hn
    refine ev_step ?_
    simp only [laws_eqMonitorS.l0]
    have hm : rdOf z111 l i ∈ l := rdOf_mem h0 (by omega)
    refine ev_pos (by omega) (ev_pos h0 (ev_pos (by omega) (Ev.bind (eqMonitor_ev (rdOf z111 l i) (hk _ hm)) (ev_pos rfl ?_))))
    rw [w64 (x := i + 1) (by omega) (by omega)]
    exact ih (i + 1) (by omega) (by omega)
theorem eqMonitorS_ev (l : List S111) (hl : l.length ≤ 9223372036854775807) (hk : ∀ x ∈ l, fitMonitor x) : Ev (fun k => laws_eqMonitorS.f k l l) true := by
  unfold laws_eqMonitorS.f
  exact ev_pos rfl (eqMonitorS_l0 l hl hk l.length 0 (by omega) (by omega))
theorem eqProcessS_l0 (l : List S115) (hl : l.length ≤ 9223372036854775807) (hk : ∀ x ∈ l, fitProcess x) (n : Nat) : ∀ i : Int, 0 ≤ i → (l.length : Int) - i = n → Ev (fun k => laws_eqProcessS.l0 k l l i) true := by
  induction n with
  | zero =>
    intro i h0 hn
    refine ev_step ?_
    simp only [laws_eqProcessS.l0]
    exact ev_neg (by omega) (ev_ret _)
  | succ n ih =>
    intro i h0 hn
    refine ev_step ?_
    simp only [laws_eqProcessS.l0]
    have hm : rdOf z115 l i ∈ l := rdOf_mem h0 (by omega)
    refine ev_pos (by omega) (ev_pos h0 (ev_pos (by omega) (Ev.bind (eqProcess_ev (rdOf z115 l i) (hk _ hm)) (ev_pos rfl ?_))))
    rw [w64 (x := i + 1) (by omega) (by omega)]
    exact ih (i + 1) (by omega) (by omega)
theorem eqProcessS_ev (l : List S115) (hl : l.length ≤ 9223372036854775807) (hk : ∀ x ∈ l, fitProcess x) : Ev (fun k => laws_eqProcessS.f k l l) true := by
  unfold laws_eqProcessS.f
  exact ev_pos rfl (eqProcessS_l0 l hl hk l.length 0 (by omega) (by omega))
theorem eqProgram_ev (a : List S99) (b : List S103) (c : List S106) (h : okProg a b c) : Ev (fun k => laws_eqProgram.f k (a.map cNode) (b.map cMonitor) (c.map cProcess) (a.map cNode) (b.map cMonitor) (c.map cProcess)) true := by
  have h1 : ∀ x ∈ a.map cNode, fitNode x := by
    intro x hx
    obtain ⟨y, hy, rfl⟩ := List.mem_map.1 hx
    have := (h.1.2 y hy).2.2.2
    show y.f5.length ≤ 9223372036854775807
    omega
  have h2 : ∀ x ∈ b.map cMonitor, fitMonitor x := by
    intro x hx
    obtain ⟨y, hy, rfl⟩ := List.mem_map.1 hx
    obtain ⟨_, e1, _, e2, _, e3, _⟩ := h.2.1.2 y hy
    refine ⟨?_, ?_, ?_⟩
    · show y.f1.length ≤ 9223372036854775807
      omega
    · show y.f2.length ≤ 9223372036854775807
      omega
    · show (y.f3.map cEntry).length ≤ 9223372036854775807
      rw [List.length_map]
      omega
  have h3 : ∀ x ∈ c.map cProcess, fitProcess x := by
    intro x hx
    obtain ⟨y, hy, rfl⟩ := List.mem_map.1 hx
    obtain ⟨_, e1, _, e2, _⟩ := h.2.2.2 y hy
    refine ⟨?_, ?_⟩
    · show y.f1.length ≤ 9223372036854775807
      omega
    · show y.f2.length ≤ 9223372036854775807
      omega
  obtain ⟨⟨l1, _⟩, ⟨l2, _⟩, ⟨l3, _⟩⟩ := h
  unfold laws_eqProgram.f
  exact Ev.bind (eqNodeS_ev _ (by rw [List.length_map]; omega) h1) (ev_pos rfl (Ev.bind (eqMonitorS_ev _ (by rw [List.length_map]; omega) h2) (ev_pos rfl (Ev.bind (eqProcessS_ev _ (by rw [List.length_map]; omega) h3) (ev_pos rfl (ev_ret _))))))

theorem within_some (n lo hi : Int) : impl_within.f n lo hi = some (decide (lo ≤ n ∧ n ≤ hi)) := by
  unfold impl_within.f
  by_cases c : n ≥ lo
  · rw [if_pos c]
    simp [c]
  · rw [if_neg c]
    have c' : ¬ lo ≤ n := c
    simp [c']

theorem l01In_some (n lo hi : Int) : spec_l01In.f n lo hi = some (decide (lo ≤ n ∧ n ≤ hi)) := by
  unfold spec_l01In.f
  by_cases c : n ≥ lo
  · rw [if_pos c]
    simp [c]
  · rw [if_neg c]
    have c' : ¬ lo ≤ n := c
    simp [c']

def keyList : List ByteArray := [(⟨#[109, 111, 110, 105, 116, 111, 114]⟩ : ByteArray), (⟨#[118, 97, 114]⟩ : ByteArray), (⟨#[113, 117, 101, 117, 101]⟩ : ByteArray), (⟨#[101, 110, 116, 114, 121]⟩ : ByteArray), (⟨#[112, 114, 111, 99, 101, 115, 115]⟩ : ByteArray), (⟨#[117, 115, 101, 115]⟩ : ByteArray), (⟨#[98, 101, 103, 105, 110]⟩ : ByteArray), (⟨#[101, 110, 100]⟩ : ByteArray), (⟨#[105, 102]⟩ : ByteArray), (⟨#[116, 104, 101, 110]⟩ : ByteArray), (⟨#[101, 108, 115, 101]⟩ : ByteArray), (⟨#[119, 104, 105, 108, 101]⟩ : ByteArray), (⟨#[100, 111]⟩ : ByteArray), (⟨#[99, 97, 108, 108]⟩ : ByteArray), (⟨#[116, 111]⟩ : ByteArray), (⟨#[112, 114, 105, 110, 116]⟩ : ByteArray), (⟨#[114, 101, 97, 100]⟩ : ByteArray), (⟨#[100, 101, 108, 97, 121]⟩ : ByteArray), (⟨#[99, 111, 110, 116, 105, 110, 117, 101]⟩ : ByteArray), (⟨#[115, 107, 105, 112]⟩ : ByteArray), (⟨#[97, 110, 100]⟩ : ByteArray), (⟨#[111, 114]⟩ : ByteArray), (⟨#[110, 111, 116]⟩ : ByteArray)]
def isKey (s : ByteArray) : Bool := decide (s ∈ keyList)

def isLet (c : Int) : Bool := decide (97 ≤ c ∧ c ≤ 122)
def nameP (s : ByteArray) : Bool := decide (1 ≤ s.size ∧ s.size ≤ 8) && (bs s).all isLet && !isKey s

theorem ev_ite {α : Type} {c : Prop} [Decidable c] {g f : Nat → Option α} {r : α} (h : c → Ev g r) (h' : ¬ c → Ev f r) : Ev (fun n => if c then g n else f n) r :=
  if hc : c then ev_pos hc (h hc) else ev_neg hc (h' hc)
def isV (x : Int) : Bool := decide (1 ≤ x ∧ x ≤ 5)
def isSt (x : Int) : Bool := decide (11 ≤ x ∧ x ≤ 19)
def isB (x : Int) : Bool := decide (x = 20)
/-- The kind of a kid that lies ahead; 0 of any other. -/
def kidK (a : List S71) (k x : Int) : Int := if 0 ≤ x ∧ x ≤ k - 1 then (rdOf z71 a x).f0 else 0
def shapeP (a : List S71) (k t : Int) (ks : List Int) : Bool :=
  if t = 1 ∨ t = 2 ∨ t = 16 ∨ t = 17 ∨ t = 18 ∨ t = 19 then decide ((ks.length : Int) = 0)
  else if t = 3 then decide ((ks.length : Int) = 2) && (ks.take 2).all (fun x => isV (kidK a k x))
  else if t = 4 ∨ t = 5 ∨ t = 11 ∨ t = 14 ∨ t = 15 then decide ((ks.length : Int) = 1) && (ks.take 1).all (fun x => isV (kidK a k x))
  else if t = 12 then decide ((ks.length : Int) = 2 ∨ (ks.length : Int) = 3) && ((ks.take 1).all (fun x => isV (kidK a k x)) && (ks.drop 1).all (fun x => isB (kidK a k x)))
  else if t = 13 then decide ((ks.length : Int) = 2) && ((ks.take 1).all (fun x => isV (kidK a k x)) && (ks.drop 1).all (fun x => isB (kidK a k x)))
  else ks.all (fun x => isSt (kidK a k x)) && decide (1 ≤ (ks.length : Int) ∧ (ks.length : Int) ≤ 12)
def emp (s : ByteArray) : Bool := decide (s.toList = ([] : List UInt8))
def namesP (t num : Int) (name more dest : ByteArray) : Bool :=
  (if t = 2 ∨ t = 11 ∨ t = 16 ∨ t = 17 ∨ t = 18 ∨ t = 14 then nameP name else emp name) &&
  ((if t = 14 then nameP more && (emp dest || nameP dest) else emp more && emp dest) &&
  (if t = 1 then decide (0 ≤ num ∧ num ≤ 1000000) else if t = 3 then decide (1 ≤ num ∧ num ≤ 9) else decide (num = 0)))
def kindP (t : Int) : Bool := isV t || (isSt t || isB t)
/-- Each kid is unlike those ahead of it. -/
def nodupP : List Int → List Int → Bool
  | _, [] => true
  | pre, x :: xs => !decide (x ∈ pre) && nodupP (pre ++ [x]) xs
theorem nodupP_cons (pre : List Int) (x : Int) (xs : List Int) : nodupP pre (x :: xs) = (!decide (x ∈ pre) && nodupP (pre ++ [x]) xs) := rfl
def nodeP (a : List S71) (k : Int) : Bool :=
  if 0 ≤ k ∧ k < a.length then nodupP [] (rdOf z71 a k).f5 && ((kindP (rdOf z71 a k).f0 && shapeP a k (rdOf z71 a k).f0 (rdOf z71 a k).f5) && namesP (rdOf z71 a k).f0 (rdOf z71 a k).f1 (rdOf z71 a k).f2 (rdOf z71 a k).f3 (rdOf z71 a k).f4) else false
/-- What is asked of the nodes: nothing is longer than a machine can hold. -/
def fitN (a : List S71) : Prop := a.length ≤ 1048576 ∧ ∀ x ∈ a, x.f2.size ≤ 1048576 ∧ x.f3.size ≤ 1048576 ∧ x.f4.size ≤ 1048576 ∧ x.f5.length ≤ 1048576
theorem isV_l01 (x : Int) : spec_l05Value.f x = some (isV x) := by
  unfold spec_l05Value.f
  rw [l01In_some]
  rfl
theorem isSt_l01 (x : Int) : spec_l05Statement.f x = some (isSt x) := by
  unfold spec_l05Statement.f
  rw [l01In_some]
  rfl
theorem drop_rd' {l : List Int} {i : Int} (h0 : 0 ≤ i) (h1 : i < l.length) : l.drop i.toNat = rd l i :: l.drop (i + 1).toNat := drop_rd (d := 0) h0 h1

theorem fitN_of (pa : List S99) (h : pa.length ≤ 1048576 ∧ ∀ x ∈ pa, okNode x) : fitN (pa.map cNode) := by
  refine ⟨by rw [List.length_map]; exact h.1, fun x hx => ?_⟩
  obtain ⟨y, hy, rfl⟩ := List.mem_map.1 hx
  exact h.2 y hy

theorem eqEnv_ev (ns : List ByteArray) (vs : List Int) (h1 : ns.length ≤ 9223372036854775807) (h2 : vs.length ≤ 9223372036854775807) : Ev (fun k => laws_eqEnv.f k ns vs ns vs) true := by
  unfold laws_eqEnv.f
  exact Ev.bind (eqStringS_ev ns h1) (ev_pos rfl (Ev.bind (eqIntS_ev vs h2) (ev_pos rfl (ev_ret _))))

theorem szEnv_ev (ns : List ByteArray) (vs : List Int) (h1 : ns.length ≤ 9223372036854775807) (h2 : ∀ x ∈ ns, x.size ≤ 9223372036854775807) (h3 : vs.length ≤ 9223372036854775807) (left : Int) (g0 : 0 ≤ left) (g1 : left ≤ 1048576) :
    ∃ r, Ev (fun k => laws_szEnv.f k ns vs left) r ∧ r ≤ left ∧ (0 ≤ r → (ns.length : Int) ≤ left ∧ (∀ x ∈ ns, (x.size : Int) ≤ left) ∧ (vs.length : Int) ≤ left) := by
  unfold laws_szEnv.f
  obtain ⟨r, hr, hle, hx⟩ := szStringS_ev ns h1 h2 left g0 g1
  by_cases c : r < 0
  · exact ⟨-1, Ev.bind hr (ev_pos c (ev_ret _)), by omega, fun h => by omega⟩
  · obtain ⟨q, hq, hle2, hx2⟩ := szIntS_some vs h3 r (by omega) (by omega)
    obtain ⟨e1, e2⟩ := hx (by omega)
    by_cases c2 : q < 0
    · exact ⟨-1, Ev.bind hr (ev_neg c (ev_bindc hq (ev_pos c2 (ev_ret _)))), by omega, fun h => by omega⟩
    · refine ⟨q, Ev.bind hr (ev_neg c (ev_bindc hq (ev_neg c2 (ev_ret _)))), by omega, fun h => ⟨e1, e2, ?_⟩⟩
      have := hx2 (by omega)
      omega
theorem toEnv_ev (ns : List ByteArray) (vs : List Int) (h1 : ns.length ≤ 1048576) (h2 : vs.length ≤ 1048576) : Ev (fun k => laws_toEnv.f k ns vs) (ns, vs) := by
  unfold laws_toEnv.f
  exact Ev.bind (toStringS_ev ns h1) (Ev.bind (toIntS_ev vs h2) (ev_ret _))

theorem eqThread_ev (a : List Int) (ns : List ByteArray) (vs : List Int) (st : Int) (h0 : a.length ≤ 9223372036854775807) (h1 : ns.length ≤ 9223372036854775807) (h2 : vs.length ≤ 9223372036854775807) : Ev (fun k => laws_eqThread.f k a ns vs st a ns vs st) true := by
  unfold laws_eqThread.f
  exact Ev.bind (eqIntS_ev a h0) (ev_pos rfl (Ev.bind (eqEnv_ev ns vs h1 h2) (ev_pos rfl (ev_pos rfl (ev_ret _)))))

theorem szThread_ev (a : List Int) (ns : List ByteArray) (vs : List Int) (st : Int) (h0 : a.length ≤ 9223372036854775807) (h1 : ns.length ≤ 9223372036854775807) (h2 : ∀ x ∈ ns, x.size ≤ 9223372036854775807) (h3 : vs.length ≤ 9223372036854775807) (left : Int) (g0 : 0 ≤ left) (g1 : left ≤ 1048576) :
    ∃ r, Ev (fun k => laws_szThread.f k a ns vs st left) r ∧ r ≤ left ∧ (0 ≤ r → (a.length : Int) ≤ left ∧ (ns.length : Int) ≤ left ∧ (∀ x ∈ ns, (x.size : Int) ≤ left) ∧ (vs.length : Int) ≤ left) := by
  unfold laws_szThread.f
  obtain ⟨q, hq, hle2, hx2⟩ := szIntS_some a h0 left g0 g1
  by_cases c : q < 0
  · exact ⟨-1, ev_bindc hq (ev_pos c (ev_ret _)), by omega, fun h => by omega⟩
  · obtain ⟨r, hr, hle, hx⟩ := szEnv_ev ns vs h1 h2 h3 q (by omega) (by omega)
    by_cases c2 : r < 0
    · exact ⟨-1, ev_bindc hq (ev_neg c (Ev.bind hr (ev_pos c2 (ev_ret _)))), by omega, fun h => by omega⟩
    · refine ⟨r, ev_bindc hq (ev_neg c (Ev.bind hr (ev_neg c2 (ev_ret _)))), by omega, fun h => ?_⟩
      have e1 := hx2 (by omega)
      obtain ⟨e2, e3, e4⟩ := hx (by omega)
      exact ⟨by omega, by omega, fun x hx => by have := e3 x hx; omega, by omega⟩
theorem toThread_ev (a : List Int) (ns : List ByteArray) (vs : List Int) (st : Int) (h0 : a.length ≤ 1048576) (h1 : ns.length ≤ 1048576) (h2 : vs.length ≤ 1048576) : Ev (fun k => laws_toThread.f k a ns vs st) (a, ns, vs, st) := by
  unfold laws_toThread.f
  exact Ev.bind (toIntS_ev a h0) (Ev.bind (toEnv_ev ns vs h1 h2) (ev_ret _))

/-- n marks from m on. -/
def upBy {α : Type} (f : Int → α) (m : Int) : Nat → List α
  | 0 => []
  | n + 1 => f m :: upBy f (m + 1) n
theorem upBy_length {α : Type} (f : Int → α) (n : Nat) : ∀ m : Int, (upBy f m n).length = n := by
  induction n with
  | zero => intro m; rfl
  | succ n ih => intro m; simp [upBy, ih]
theorem upBy_snoc {α : Type} (f : Int → α) (n : Nat) : ∀ m : Int, upBy f m n ++ [f (m + n)] = upBy f m (n + 1) := by
  induction n with
  | zero => intro m; simp [upBy]
  | succ n ih =>
    intro m
    have h := ih (m + 1)
    rw [show m + 1 + (n : Int) = m + ((n + 1 : Nat) : Int) by omega] at h
    show f m :: (upBy f (m + 1) n ++ [f (m + ((n + 1 : Nat) : Int))]) = f m :: upBy f (m + 1) (n + 1)
    rw [h]
theorem upBy_get {α : Type} (f : Int → α) : ∀ (N : Nat) (m : Int) (i : Nat), i < N → (upBy f m N)[i]? = some (f (m + i)) := by
  intro N
  induction N with
  | zero => intro m i h; omega
  | succ N ih =>
    intro m i h
    cases i with
    | zero => simp [upBy]
    | succ i =>
      simp only [upBy, List.getElem?_cons_succ]
      rw [ih (m + 1) i (by omega), show m + 1 + (i : Int) = m + ((i + 1 : Nat) : Int) by omega]
theorem upBy_rd {α : Type} (d : α) (f : Int → α) (m : Int) (N i : Nat) (h : i < N) : rdOf d (upBy f m N) i = f (m + i) := by
  unfold rdOf
  rw [List.getD_eq_getElem?_getD, show ((i : Int)).toNat = i by omega, upBy_get f N m i h]
  rfl

def upFrom (m : Int) (n : Nat) : List Int := upBy (fun x => x) m n
theorem upFrom_length (m : Int) (n : Nat) : (upFrom m n).length = n := upBy_length _ n m
theorem markIntS_l0 (m : Int) (N : Nat) (hN : N ≤ 1000000000) (hm : 0 ≤ m) (hm2 : m ≤ 9300000000000) (n : Nat) : ∀ (l : List Int) (i : Nat), l.length = N → i + n = N → l.take i = upFrom m i → Ev (fun k => laws_markIntS.l0 k l (m + i) i) (m + N, upFrom m N) := by
  induction n with
  | zero =>
    intro l i hl hn ht
    refine ev_step ?_
    simp only [laws_markIntS.l0]
    refine ev_neg (by omega) (ev_eq ?_ (ev_ret _))
    obtain rfl : i = N := by omega
    rw [List.take_of_length_le (by omega)] at ht
    rw [ht]
  | succ n ih =>
    intro l i hl hn ht
    refine ev_step ?_
    simp only [laws_markIntS.l0]
    refine ev_pos (by omega) (ev_pos (by omega) ?_)
    rw [w64 (x := m + (i : Int) + 1) (by omega) (by omega), w64 (x := (i : Int) + 1) (by omega) (by omega)]
    have h := ih (l.set i (m + i)) (i + 1) (by simpa using hl) (by omega) (by rw [set_take _ _ _ (by omega), ht]; exact upBy_snoc _ i m)
    rw [show m + ((i + 1 : Nat) : Int) = m + (i : Int) + 1 by omega, show ((i + 1 : Nat) : Int) = (i : Int) + 1 by omega] at h
    exact h
theorem markIntS_ev (l : List Int) (m : Int) (hl : l.length ≤ 1000000000) (hm : 0 ≤ m) (hm2 : m ≤ 9300000000000) : Ev (fun k => laws_markIntS.f k l m) (m + l.length, upFrom m l.length) := by
  unfold laws_markIntS.f
  have h := markIntS_l0 m l.length hl hm hm2 l.length l 0 rfl (by omega) rfl
  simpa using h
theorem heldIntS_l0 (m : Int) (N : Nat) (hN : N ≤ 1000000000) (hm : 0 ≤ m) (hm2 : m ≤ 9300000000000) (n : Nat) : ∀ (i : Nat), i + n = N → Ev (fun k => laws_heldIntS.l0 k (upFrom m N) (m + i) i) (m + N) := by
  have hl := upFrom_length m N
  induction n with
  | zero =>
    intro i hn
    refine ev_step ?_
    simp only [laws_heldIntS.l0]
    refine ev_neg (by omega) (ev_eq ?_ (ev_ret _))
    obtain rfl : i = N := by omega
    rfl
  | succ n ih =>
    intro i hn
    refine ev_step ?_
    simp only [laws_heldIntS.l0]
    refine ev_pos (by omega) (ev_pos (by omega) (ev_pos ?_ ?_))
    · rw [rd_rdOf]
      exact upBy_rd 0 _ m N i (by omega)
    · rw [w64 (x := m + (i : Int) + 1) (by omega) (by omega), w64 (x := (i : Int) + 1) (by omega) (by omega)]
      have h := ih (i + 1) (by omega)
      rw [show m + ((i + 1 : Nat) : Int) = m + (i : Int) + 1 by omega, show ((i + 1 : Nat) : Int) = (i : Int) + 1 by omega] at h
      exact h
theorem heldIntS_ev (m : Int) (N : Nat) (hN : N ≤ 1000000000) (hm : 0 ≤ m) (hm2 : m ≤ 9300000000000) : Ev (fun k => laws_heldIntS.f k (upFrom m N) m) (m + N) := by
  unfold laws_heldIntS.f
  have h := heldIntS_l0 m N hN hm hm2 N 0 (by omega)
  simpa using h

theorem markText_l0 (d : Nat) : ∀ (m : Int) (x : ByteArray), 0 ≤ m → m < 10 ^ d → x.size + d ≤ 1000 → m ≤ 9223372036854775807 → ∃ t, Ev (fun k => laws_markText.l0 k m x) t := by
  induction d with
  | zero =>
    intro m x h0 h1 hx _
    refine ⟨(⟨#[109]⟩ : ByteArray) ++ x, ev_step ?_⟩
    simp only [laws_markText.l0]
    exact ev_neg (by omega) (ev_pos (by omega) (ev_ret _))
  | succ d ih =>
    intro m x h0 h1 hx hm
    rw [Int.pow_succ] at h1
    by_cases c : m > 0
    · obtain ⟨t, ht⟩ := ih (m / 10) (strOfNums [(wrap64 (48 + (Int.tmod m 10))) % 256] ++ x) (by omega) (by omega) (by rw [ByteArray.size_append, strOfNums_size]; simp; omega) (by omega)
      refine ⟨t, ev_step ?_⟩
      simp only [laws_markText.l0]
      refine ev_pos c (ev_bindc rfl (ev_pos ?_ ?_))
      · rw [strOfNums_size]
        simp
        omega
      · rw [Int.tdiv_eq_ediv_of_nonneg h0, w64 (x := m / 10) (by omega) (by omega)]
        exact ht
    · refine ⟨(⟨#[109]⟩ : ByteArray) ++ x, ev_step ?_⟩
      simp only [laws_markText.l0]
      exact ev_neg c (ev_pos (by omega) (ev_ret _))
theorem markText_some (m : Int) (h0 : 0 ≤ m) (h1 : m ≤ 10000000000000) : ∃ t, Ev (fun k => laws_markText.f k m) t := by
  unfold laws_markText.f
  by_cases c : m ≤ 0
  · exact ⟨_, ev_pos c (ev_ret _)⟩
  · obtain ⟨t, ht⟩ := markText_l0 14 m ⟨#[]⟩ h0 (by omega) (by decide) (by omega)
    exact ⟨t, ev_neg c ht⟩
open Classical in
noncomputable def markT (m : Int) : ByteArray := if h : 0 ≤ m ∧ m ≤ 10000000000000 then Classical.choose (markText_some m h.1 h.2) else ByteArray.empty
theorem markT_ev (m : Int) (h0 : 0 ≤ m) (h1 : m ≤ 10000000000000) : Ev (fun k => laws_markText.f k m) (markT m) := by
  unfold markT
  rw [dif_pos ⟨h0, h1⟩]
  exact Classical.choose_spec (markText_some m h0 h1)

noncomputable def upText (m : Int) (n : Nat) : List ByteArray := upBy markT m n
theorem upText_length (m : Int) (n : Nat) : (upText m n).length = n := upBy_length _ n m
theorem markStringS_l0 (m : Int) (N : Nat) (hN : N ≤ 1000000000) (hm : 0 ≤ m) (hm2 : m ≤ 9300000000000) (n : Nat) : ∀ (l : List ByteArray) (i : Nat), l.length = N → i + n = N → l.take i = upText m i → Ev (fun k => laws_markStringS.l0 k l (m + i) i) (m + N, upText m N) := by
  induction n with
  | zero =>
    intro l i hl hn ht
    refine ev_step ?_
    simp only [laws_markStringS.l0]
    refine ev_neg (by omega) (ev_eq ?_ (ev_ret _))
    obtain rfl : i = N := by omega
    rw [List.take_of_length_le (by omega)] at ht
    rw [ht]
  | succ n ih =>
    intro l i hl hn ht
    refine ev_step ?_
    simp only [laws_markStringS.l0]
    refine ev_pos (by omega) (Ev.bind (markT_ev (m + i) (by omega) (by omega)) (ev_pos (by omega) ?_))
    rw [w64 (x := m + (i : Int) + 1) (by omega) (by omega), w64 (x := (i : Int) + 1) (by omega) (by omega)]
    have h := ih (l.set i (markT (m + i))) (i + 1) (by simpa using hl) (by omega) (by rw [set_take _ _ _ (by omega), ht]; exact upBy_snoc _ i m)
    rw [show m + ((i + 1 : Nat) : Int) = m + (i : Int) + 1 by omega, show ((i + 1 : Nat) : Int) = (i : Int) + 1 by omega] at h
    exact h
theorem markStringS_ev (l : List ByteArray) (m : Int) (hl : l.length ≤ 1000000000) (hm : 0 ≤ m) (hm2 : m ≤ 9300000000000) : Ev (fun k => laws_markStringS.f k l m) (m + l.length, upText m l.length) := by
  unfold laws_markStringS.f
  have h := markStringS_l0 m l.length hl hm hm2 l.length l 0 rfl (by omega) rfl
  simpa using h

theorem heldStringS_l0 (m : Int) (N : Nat) (hN : N ≤ 1000000000) (hm : 0 ≤ m) (hm2 : m ≤ 9300000000000) (n : Nat) : ∀ (i : Nat), i + n = N → Ev (fun k => laws_heldStringS.l0 k (upText m N) (m + i) i) (m + N) := by
  have hl := upText_length m N
  induction n with
  | zero =>
    intro i hn
    refine ev_step ?_
    simp only [laws_heldStringS.l0]
    refine ev_neg (by omega) (ev_eq ?_ (ev_ret _))
    obtain rfl : i = N := by omega
    rfl
  | succ n ih =>
    intro i hn
    refine ev_step ?_
    simp only [laws_heldStringS.l0]
    refine ev_pos (by omega) (ev_pos (by omega) (Ev.bind (markT_ev (m + i) (by omega) (by omega)) (ev_pos ?_ ?_)))
    · rw [show rdOf ByteArray.empty (upText m N) (i : Int) = markT (m + i) from upBy_rd _ _ m N i (by omega)]
    · rw [w64 (x := m + (i : Int) + 1) (by omega) (by omega), w64 (x := (i : Int) + 1) (by omega) (by omega)]
      have h := ih (i + 1) (by omega)
      rw [show m + ((i + 1 : Nat) : Int) = m + (i : Int) + 1 by omega, show ((i + 1 : Nat) : Int) = (i : Int) + 1 by omega] at h
      exact h
theorem heldStringS_ev (m : Int) (N : Nat) (hN : N ≤ 1000000000) (hm : 0 ≤ m) (hm2 : m ≤ 9300000000000) : Ev (fun k => laws_heldStringS.f k (upText m N) m) (m + N) := by
  unfold laws_heldStringS.f
  have h := heldStringS_l0 m N hN hm hm2 N 0 (by omega)
  simpa using h

theorem markEnv_ev (ns : List ByteArray) (vs : List Int) (m : Int) (h1 : ns.length ≤ 10000000) (h2 : vs.length ≤ 10000000) (hm : 0 ≤ m) (hm2 : m ≤ 9200000000000) :
    Ev (fun k => laws_markEnv.f k ns vs m) (m + ns.length + vs.length, upText m ns.length, upFrom (m + ns.length) vs.length) := by
  unfold laws_markEnv.f
  exact Ev.bind (markStringS_ev ns m (by omega) hm (by omega)) (Ev.bind (markIntS_ev vs (m + ns.length) (by omega) (by omega) (by omega)) (ev_ret _))
theorem heldEnv_ev (a b : Nat) (m : Int) (h1 : a ≤ 10000000) (h2 : b ≤ 10000000) (hm : 0 ≤ m) (hm2 : m ≤ 9200000000000) :
    Ev (fun k => laws_heldEnv.f k (upText m a) (upFrom (m + a) b) m) (m + a + b) := by
  unfold laws_heldEnv.f
  exact Ev.bind (heldStringS_ev m a (by omega) hm (by omega)) (ev_neg (by omega) (Ev.bind (heldIntS_ev (m + a) b (by omega) (by omega) (by omega)) (ev_neg (by omega) (ev_ret _))))

theorem markThread_ev (a : List Int) (ns : List ByteArray) (vs : List Int) (st : Int) (m : Int) (h0 : a.length ≤ 10000000) (h1 : ns.length ≤ 10000000) (h2 : vs.length ≤ 10000000) (hm : 0 ≤ m) (hm2 : m ≤ 9100000000000) :
    Ev (fun k => laws_markThread.f k a ns vs st m) (m + a.length + ns.length + vs.length, upFrom m a.length, upText (m + a.length) ns.length, upFrom (m + a.length + ns.length) vs.length) := by
  unfold laws_markThread.f
  exact Ev.bind (markIntS_ev a m (by omega) (by omega) (by omega)) (Ev.bind (markEnv_ev ns vs (m + a.length) h1 h2 (by omega) (by omega)) (ev_ret _))
theorem heldThread_ev (a b c : Nat) (st : Int) (m : Int) (h0 : a ≤ 10000000) (h1 : b ≤ 10000000) (h2 : c ≤ 10000000) (hm : 0 ≤ m) (hm2 : m ≤ 9100000000000) :
    Ev (fun k => laws_heldThread.f k (upFrom m a) (upText (m + a) b) (upFrom (m + a + b) c) st m) (m + a + b + c) := by
  unfold laws_heldThread.f
  exact Ev.bind (heldIntS_ev m a (by omega) hm (by omega)) (ev_neg (by omega) (Ev.bind (heldEnv_ev b c (m + a) h1 h2 (by omega) (by omega)) (ev_neg (by omega) (ev_ret _))))

/-! The marks on a program: that they come to an end, and what number comes back. -/
theorem markInt_x (N : Nat) (hN : N ≤ 1048576) (d : Nat) : ∀ (l : List Int) (m : Int) (i : Nat), l.length = N → i + d = N → 0 ≤ m → m + d ≤ 10000000000000 → ∃ l', l'.length = N ∧ Ev (fun k => laws_markIntS.l0 k l m i) (m + d, l') := by
  induction d with
  | zero =>
    intro l m i hl hi h0 h1
    refine ⟨l, hl, ev_step ?_⟩
    simp only [laws_markIntS.l0]
    exact ev_neg (by omega) (ev_eq (by simp) (ev_ret _))
  | succ d ih =>
    intro l m i hl hi h0 h1
    obtain ⟨l', h2, h3⟩ := ih (l.set i m) (m + 1) (i + 1) (by simpa using hl) (by omega) (by omega) (by omega)
    refine ⟨l', h2, ev_step ?_⟩
    simp only [laws_markIntS.l0]
    refine ev_pos (by omega) (ev_pos (by omega) ?_)
    rw [w64 (x := m + 1) (by omega) (by omega), w64 (x := (i : Int) + 1) (by omega) (by omega)]
    rw [show m + 1 + (d : Int) = m + ((d + 1 : Nat) : Int) by omega, show ((i + 1 : Nat) : Int) = (i : Int) + 1 by omega] at h3
    exact h3
theorem markStr_x (N : Nat) (hN : N ≤ 1048576) (d : Nat) : ∀ (l : List ByteArray) (m : Int) (i : Nat), l.length = N → i + d = N → 0 ≤ m → m + d ≤ 10000000000000 → ∃ l', l'.length = N ∧ Ev (fun k => laws_markStringS.l0 k l m i) (m + d, l') := by
  induction d with
  | zero =>
    intro l m i hl hi h0 h1
    refine ⟨l, hl, ev_step ?_⟩
    simp only [laws_markStringS.l0]
    exact ev_neg (by omega) (ev_eq (by simp) (ev_ret _))
  | succ d ih =>
    intro l m i hl hi h0 h1
    obtain ⟨t, ht⟩ := markText_some m h0 (by omega)
    obtain ⟨l', h2, h3⟩ := ih (l.set i t) (m + 1) (i + 1) (by simpa using hl) (by omega) (by omega) (by omega)
    refine ⟨l', h2, ev_step ?_⟩
    simp only [laws_markStringS.l0]
    refine ev_pos (by omega) (Ev.bind ht (ev_pos (by omega) ?_))
    rw [w64 (x := m + 1) (by omega) (by omega), w64 (x := (i : Int) + 1) (by omega) (by omega)]
    rw [show m + 1 + (d : Int) = m + ((d + 1 : Nat) : Int) by omega, show ((i + 1 : Nat) : Int) = (i : Int) + 1 by omega] at h3
    exact h3
theorem markEntry_x (N : Nat) (hN : N ≤ 1048576) (d : Nat) : ∀ (l : List S113) (m : Int) (i : Nat), l.length = N → i + d = N → 0 ≤ m → m + 3 * d ≤ 10000000000000 → ∃ l', l'.length = N ∧ Ev (fun k => laws_markEntryS.l0 k l m i) (m + 3 * d, l') := by
  induction d with
  | zero =>
    intro l m i hl hi h0 h1
    refine ⟨l, hl, ev_step ?_⟩
    simp only [laws_markEntryS.l0]
    exact ev_neg (by omega) (ev_eq (by simp) (ev_ret _))
  | succ d ih =>
    intro l m i hl hi h0 h1
    obtain ⟨t, ht⟩ := markText_some m h0 (by omega)
    obtain ⟨u, hu⟩ := markText_some (m + 1) (by omega) (by omega)
    have key : ∀ l2 : List S113, l2.length = N → ∃ l', l'.length = N ∧ Ev (fun k => laws_markEntryS.l0 k l2 (m + 1 + 1 + 1) ((i : Int) + 1)) (m + 3 * ((d + 1 : Nat) : Int), l') := by
      intro l2 hl2
      obtain ⟨l', h2, h3⟩ := ih l2 (m + 1 + 1 + 1) (i + 1) hl2 (by omega) (by omega) (by omega)
      rw [show m + 1 + 1 + 1 + 3 * (d : Int) = m + 3 * ((d + 1 : Nat) : Int) by omega, show ((i + 1 : Nat) : Int) = (i : Int) + 1 by omega] at h3
      exact ⟨l', h2, h3⟩
    obtain ⟨y1, hy1⟩ : ∃ y1, y1 = l.set (i : Int).toNat (⟨t, (rd_T113 l i).f1, (rd_T113 l i).f2⟩ : S113) := ⟨_, rfl⟩
    obtain ⟨y2, hy2⟩ : ∃ y2, y2 = y1.set (i : Int).toNat (⟨(rd_T113 y1 i).f0, u, (rd_T113 y1 i).f2⟩ : S113) := ⟨_, rfl⟩
    obtain ⟨l', h2, h3⟩ := key (y2.set (i : Int).toNat (⟨(rd_T113 y2 i).f0, (rd_T113 y2 i).f1, m + 1 + 1⟩ : S113)) (by rw [List.length_set, hy2, List.length_set, hy1, List.length_set]; exact hl)
    refine ⟨l', h2, ev_step ?_⟩
    simp only [laws_markEntryS.l0]
    refine ev_pos (by omega) (Ev.bind ht (ev_pos (by omega) (ev_bindc rfl ?_)))
    rw [w64 (x := m + 1) (by omega) (by omega)]
    refine Ev.bind hu (ev_bindc rfl ?_)
    rw [w64 (x := m + 1 + 1) (by omega) (by omega), w64 (x := m + 1 + 1 + 1) (by omega) (by omega), w64 (x := (i : Int) + 1) (by omega) (by omega)]
    rw [hy2, hy1] at h3
    exact h3
theorem markNode_x (N : Nat) (hN : N ≤ 1048576) (d : Nat) : ∀ (l : List S71) (m : Int) (i : Nat), l.length = N → (∀ x ∈ l, x.f5.length ≤ 1048576) → i + d = N → 0 ≤ m → m + 1048581 * d ≤ 10000000000000 → ∃ r l', m ≤ r ∧ r ≤ m + 1048581 * d ∧ Ev (fun k => laws_markNodeS.l0 k l m i) (r, l') := by
  induction d with
  | zero =>
    intro l m i hl _ hi h0 h1
    refine ⟨m, l, by omega, by omega, ev_step ?_⟩
    simp only [laws_markNodeS.l0]
    exact ev_neg (by omega) (ev_ret _)
  | succ d ih =>
    intro l m i hl hf hi h0 h1
    have hx := hf _ (rdOf_mem (d := z71) (l := l) (i := (i : Int)) (by omega) (by omega))
    obtain ⟨t2, h2⟩ := markText_some (m + 1 + 1) (by omega) (by omega)
    obtain ⟨t3, h3⟩ := markText_some (m + 1 + 1 + 1) (by omega) (by omega)
    obtain ⟨t4, h4⟩ := markText_some (m + 1 + 1 + 1 + 1) (by omega) (by omega)
    obtain ⟨l5, h5, h6⟩ := markInt_x (rdOf z71 l (i : Int)).f5.length hx (rdOf z71 l (i : Int)).f5.length (rdOf z71 l (i : Int)).f5 (m + 1 + 1 + 1 + 1 + 1) 0 rfl (by omega) (by omega) (by omega)
    obtain ⟨r, l', q1, q2, q3⟩ := ih (l.set i ⟨m, m + 1, t2, t3, t4, l5⟩) (m + 1 + 1 + 1 + 1 + 1 + ((rdOf z71 l (i : Int)).f5.length : Int)) (i + 1) (by simpa using hl) (fun x hx2 => by
      rcases List.mem_or_eq_of_mem_set hx2 with h | rfl
      · exact hf x h
      · show l5.length ≤ 1048576
        omega) (by omega) (by omega) (by omega)
    refine ⟨r, l', by omega, by omega, ev_step ?_⟩
    simp only [laws_markNodeS.l0]
    rw [w64 (x := m + 1) (by omega) (by omega), w64 (x := m + 1 + 1) (by omega) (by omega), w64 (x := m + 1 + 1 + 1) (by omega) (by omega), w64 (x := m + 1 + 1 + 1 + 1) (by omega) (by omega), w64 (x := m + 1 + 1 + 1 + 1 + 1) (by omega) (by omega)]
    refine ev_pos (by omega) (ev_pos (by omega) (Ev.bind h2 (Ev.bind h3 (Ev.bind h4 (Ev.bind (a := (m + 1 + 1 + 1 + 1 + 1 + ((rdOf z71 l (i : Int)).f5.length : Int), l5)) ?_ ?_)))))
    · exact h6
    · rw [w64 (x := (i : Int) + 1) (by omega) (by omega)]
      rw [show ((i + 1 : Nat) : Int) = (i : Int) + 1 by omega] at q3
      exact q3
theorem markStrF_x (l : List ByteArray) (m : Int) (hl : l.length ≤ 1048576) (h0 : 0 ≤ m) (h1 : m + l.length ≤ 10000000000000) : ∃ l', l'.length = l.length ∧ Ev (fun k => laws_markStringS.f k l m) (m + l.length, l') := by
  obtain ⟨l', h2, h3⟩ := markStr_x l.length hl l.length l m 0 rfl (by omega) h0 h1
  exact ⟨l', h2, h3⟩
theorem markMonitor_x (N : Nat) (hN : N ≤ 1048576) (d : Nat) : ∀ (l : List S111) (m : Int) (i : Nat), l.length = N → (∀ x ∈ l, x.f1.length ≤ 1048576 ∧ x.f2.length ≤ 1048576 ∧ x.f3.length ≤ 1048576) → i + d = N → 0 ≤ m → m + 5242881 * d ≤ 10000000000000 → ∃ r l', m ≤ r ∧ r ≤ m + 5242881 * d ∧ Ev (fun k => laws_markMonitorS.l0 k l m i) (r, l') := by
  induction d with
  | zero =>
    intro l m i hl _ hi h0 h1
    refine ⟨m, l, by omega, by omega, ev_step ?_⟩
    simp only [laws_markMonitorS.l0]
    exact ev_neg (by omega) (ev_ret _)
  | succ d ih =>
    intro l m i hl hf hi h0 h1
    obtain ⟨x1, x2, x3⟩ := hf _ (rdOf_mem (d := z111) (l := l) (i := (i : Int)) (by omega) (by omega))
    obtain ⟨t, ht⟩ := markText_some m (by omega) (by omega)
    obtain ⟨l1, a1, b1⟩ := markStrF_x (rdOf z111 l (i : Int)).f1 (m + 1) x1 (by omega) (by omega)
    obtain ⟨l2, a2, b2⟩ := markStrF_x (rdOf z111 l (i : Int)).f2 (m + 1 + ((rdOf z111 l (i : Int)).f1.length : Int)) x2 (by omega) (by omega)
    obtain ⟨l3, a3, b3⟩ := markEntry_x (rdOf z111 l (i : Int)).f3.length x3 (rdOf z111 l (i : Int)).f3.length (rdOf z111 l (i : Int)).f3 (m + 1 + ((rdOf z111 l (i : Int)).f1.length : Int) + ((rdOf z111 l (i : Int)).f2.length : Int)) 0 rfl (by omega) (by omega) (by omega)
    obtain ⟨r, l', q1, q2, q3⟩ := ih (l.set i ⟨t, l1, l2, l3⟩) (m + 1 + ((rdOf z111 l (i : Int)).f1.length : Int) + ((rdOf z111 l (i : Int)).f2.length : Int) + 3 * ((rdOf z111 l (i : Int)).f3.length : Int)) (i + 1) (by simpa using hl) (fun x hx2 => by
      rcases List.mem_or_eq_of_mem_set hx2 with h | rfl
      · exact hf x h
      · exact ⟨by show l1.length ≤ 1048576; omega, by show l2.length ≤ 1048576; omega, by show l3.length ≤ 1048576; omega⟩) (by omega) (by omega) (by omega)
    refine ⟨r, l', by omega, by omega, ev_step ?_⟩
    simp only [laws_markMonitorS.l0]
    rw [w64 (x := m + 1) (by omega) (by omega)]
    refine ev_pos (by omega) (ev_pos (by omega) (Ev.bind ht (Ev.bind b1 (Ev.bind b2 (Ev.bind (a := (m + 1 + ((rdOf z111 l (i : Int)).f1.length : Int) + ((rdOf z111 l (i : Int)).f2.length : Int) + 3 * ((rdOf z111 l (i : Int)).f3.length : Int), l3)) ?_ ?_)))))
    · exact b3
    · rw [w64 (x := (i : Int) + 1) (by omega) (by omega)]
      rw [show ((i + 1 : Nat) : Int) = (i : Int) + 1 by omega] at q3
      exact q3
theorem markProcess_x (N : Nat) (hN : N ≤ 1048576) (d : Nat) : ∀ (l : List S115) (m : Int) (i : Nat), l.length = N → (∀ x ∈ l, x.f1.length ≤ 1048576 ∧ x.f2.length ≤ 1048576) → i + d = N → 0 ≤ m → m + 2097154 * d ≤ 10000000000000 → ∃ r l', m ≤ r ∧ r ≤ m + 2097154 * d ∧ Ev (fun k => laws_markProcessS.l0 k l m i) (r, l') := by
  induction d with
  | zero =>
    intro l m i hl _ hi h0 h1
    refine ⟨m, l, by omega, by omega, ev_step ?_⟩
    simp only [laws_markProcessS.l0]
    exact ev_neg (by omega) (ev_ret _)
  | succ d ih =>
    intro l m i hl hf hi h0 h1
    obtain ⟨x1, x2⟩ := hf _ (rdOf_mem (d := z115) (l := l) (i := (i : Int)) (by omega) (by omega))
    obtain ⟨t, ht⟩ := markText_some m (by omega) (by omega)
    obtain ⟨l1, a1, b1⟩ := markStrF_x (rdOf z115 l (i : Int)).f1 (m + 1) x1 (by omega) (by omega)
    obtain ⟨l2, a2, b2⟩ := markStrF_x (rdOf z115 l (i : Int)).f2 (m + 1 + ((rdOf z115 l (i : Int)).f1.length : Int)) x2 (by omega) (by omega)
    obtain ⟨r, l', q1, q2, q3⟩ := ih (l.set i ⟨t, l1, l2, m + 1 + ((rdOf z115 l (i : Int)).f1.length : Int) + ((rdOf z115 l (i : Int)).f2.length : Int)⟩) (m + 1 + ((rdOf z115 l (i : Int)).f1.length : Int) + ((rdOf z115 l (i : Int)).f2.length : Int) + 1) (i + 1) (by simpa using hl) (fun x hx2 => by
      rcases List.mem_or_eq_of_mem_set hx2 with h | rfl
      · exact hf x h
      · exact ⟨by show l1.length ≤ 1048576; omega, by show l2.length ≤ 1048576; omega⟩) (by omega) (by omega) (by omega)
    refine ⟨r, l', by omega, by omega, ev_step ?_⟩
    simp only [laws_markProcessS.l0]
    rw [w64 (x := m + 1) (by omega) (by omega)]
    refine ev_pos (by omega) (ev_pos (by omega) (Ev.bind ht (Ev.bind b1 (Ev.bind b2 ?_))))
    rw [w64 (x := m + 1 + ((rdOf z115 l (i : Int)).f1.length : Int) + ((rdOf z115 l (i : Int)).f2.length : Int) + 1) (by omega) (by omega), w64 (x := (i : Int) + 1) (by omega) (by omega)]
    rw [show ((i + 1 : Nat) : Int) = (i : Int) + 1 by omega] at q3
    exact q3
/-- All of a program's marks: the number that comes back is none below 0. -/
theorem markProgram_x (a : List S71) (b : List S111) (c : List S115) (ha : a.length ≤ 1048576) (ha2 : ∀ x ∈ a, x.f5.length ≤ 1048576) (hb : b.length ≤ 1048576) (hb2 : ∀ x ∈ b, x.f1.length ≤ 1048576 ∧ x.f2.length ≤ 1048576 ∧ x.f3.length ≤ 1048576)
    (hc : c.length ≤ 1048576) (hc2 : ∀ x ∈ c, x.f1.length ≤ 1048576 ∧ x.f2.length ≤ 1048576) : ∃ r, 0 ≤ r ∧ r ≤ 9000000000000 ∧ Ev (fun k => laws_markProgram.f k a b c 1) r := by
  obtain ⟨r1, l1, h1, h2, h3⟩ := markNode_x a.length ha a.length a 1 0 rfl ha2 (by omega) (by omega) (by omega)
  obtain ⟨r2, l2, h4, h5, h6⟩ := markMonitor_x b.length hb b.length b r1 0 rfl hb2 (by omega) (by omega) (by omega)
  obtain ⟨r3, l3, h7, h8, h9⟩ := markProcess_x c.length hc c.length c r2 0 rfl hc2 (by omega) (by omega) (by omega)
  refine ⟨r3, by omega, by omega, ?_⟩
  unfold laws_markProgram.f laws_markProgram.g
  exact Ev.bind (a := (r3, l1, l2, l3)) (Ev.bind (a := (r1, l1)) h3 (Ev.bind (a := (r2, l2)) h6 (Ev.bind (a := (r3, l3)) h9 (ev_ret _)))) (ev_ret _)
theorem markOk_x (pa : List S99) (pb : List S103) (pc : List S106) (h : okProg pa pb pc) : ∃ r, 0 ≤ r ∧ r ≤ 9000000000000 ∧ Ev (fun k => laws_markProgram.f k (pa.map cNode) (pb.map cMonitor) (pc.map cProcess) 1) r := by
  obtain ⟨⟨h1, h2⟩, ⟨h3, h4⟩, h5, h6⟩ := h
  refine markProgram_x _ _ _ (by simpa using h1) (fun x hx => ?_) (by simpa using h3) (fun x hx => ?_) (by simpa using h5) (fun x hx => ?_)
  · obtain ⟨y, hy, rfl⟩ := List.mem_map.1 hx
    exact (h2 y hy).2.2.2
  · obtain ⟨y, hy, rfl⟩ := List.mem_map.1 hx
    obtain ⟨_, e1, _, e2, _, e3, _⟩ := h4 y hy
    exact ⟨e1, e2, by show (y.f3.map cEntry).length ≤ 1048576; rw [List.length_map]; exact e3⟩
  · obtain ⟨y, hy, rfl⟩ := List.mem_map.1 hx
    obtain ⟨_, e1, _, e2, _⟩ := h6 y hy
    exact ⟨e1, e2⟩

theorem spec_KeyWord_l0 (s : ByteArray) (l : List ByteArray) (hl : l.length ≤ 1000) (n : Nat) : ∀ (i : Int), 0 ≤ i → (l.length : Int) - i = n → Ev (fun k => spec_KeyWord.l0 k s l i) (decide (s ∈ l.drop i.toNat)) := by
  induction n with
  | zero =>
    intro i h0 hi
    refine ev_step ?_
    simp only [spec_KeyWord.l0]
    rw [drop_end h0 (by omega)]
    exact ev_neg (by omega) (ev_eq (by simp) (ev_ret _))
  | succ n ih =>
    intro i h0 hi
    refine ev_step ?_
    simp only [spec_KeyWord.l0]
    refine ev_pos (by omega) (ev_pos h0 ?_)
    rw [drop_rd (d := ByteArray.empty) h0 (by omega)]
    by_cases c : (rdOf ByteArray.empty l i).toList = s.toList
    · refine ev_pos c (ev_eq ?_ (ev_ret _))
      rw [toList_eq_iff] at c
      simp [c]
    · refine ev_neg c ?_
      rw [w64 (x := i + 1) (by omega) (by omega)]
      refine ev_eq ?_ (ih (i + 1) (by omega) (by omega))
      rw [toList_eq_iff] at c
      have c' : ¬ s = rdOf ByteArray.empty l i := fun h => c h.symm
      simp [c']
theorem spec_KeyWord_ev (s : ByteArray) : Ev (fun k => spec_KeyWord.f k s) (isKey s) := by
  unfold spec_KeyWord.f spec_l04Keys.f
  exact ev_bindc (a := keyList) rfl (spec_KeyWord_l0 s keyList (by decide) keyList.length 0 (by omega) (by simp))

theorem spec_NameOk_l0 (s : ByteArray) (hs : s.size ≤ 140737488351232) (n : Nat) : ∀ i : Int, 0 ≤ i → (s.size : Int) - i = n → Ev (fun k => spec_NameOk.l0 k s i) (decide (1 ≤ s.size ∧ s.size ≤ 8) && ((bs s).drop i.toNat).all isLet && !isKey s) := by
  induction n with
  | zero =>
    intro i h0 hn
    refine ev_step ?_
    simp only [spec_NameOk.l0]
    rw [bs_end h0 (by omega), l01In_some]
    refine ev_neg (by omega) (ev_bindc rfl ?_)
    by_cases c : 1 ≤ s.size ∧ s.size ≤ 8
    · exact ev_pos (by simp; omega) (Ev.bind (spec_KeyWord_ev s) (ev_eq (by simp [c]) (ev_ret _)))
    · refine ev_neg (by simp; omega) (ev_eq ?_ (ev_ret _))
      rw [show decide (1 ≤ s.size ∧ s.size ≤ 8) = false by simpa using c]
      rfl
  | succ n ih =>
    intro i h0 hn
    refine ev_step ?_
    simp only [spec_NameOk.l0]
    rw [bs_drop h0 (by omega), List.all_cons]
    refine ev_pos (by omega) (ev_pos h0 ?_)
    by_cases c : bt s i < 97
    · refine ev_pos c (ev_eq ?_ (ev_ret _))
      have : isLet (bt s i) = false := by unfold isLet; simp; omega
      simp [this]
    · refine ev_neg c ?_
      by_cases c2 : bt s i > 122
      · refine ev_pos c2 (ev_eq ?_ (ev_ret _))
        have : isLet (bt s i) = false := by unfold isLet; simp; omega
        simp [this]
      · rw [w64 (x := i + 1) (by omega) (by omega)]
        have : isLet (bt s i) = true := by unfold isLet; simp; omega
        rw [this, Bool.true_and]
        exact ev_neg c2 (ih (i + 1) (by omega) (by omega))
theorem spec_NameOk_ev (s : ByteArray) (hs : s.size ≤ 140737488351232) : Ev (fun k => spec_NameOk.f k s) (nameP s) := by
  unfold spec_NameOk.f
  have h := spec_NameOk_l0 s hs s.size 0 (by omega) (by omega)
  simpa [nameP] using h

theorem l05Kid_some (a : List S71) (b : List S111) (c : List S115) (k i : Int) (h0 : 0 ≤ k) (h1 : k < a.length) (hi0 : 0 ≤ i) (hi1 : i < (rdOf z71 a k).f5.length) (ha : a.length ≤ 1048576) :
    spec_l05Kid.f a b c k i = some (kidK a k (rd (rdOf z71 a k).f5 i)) := by
  unfold spec_l05Kid.f kidK
  have E : ∀ i, rd_T71 a i = rdOf z71 a i := fun _ => rfl
  simp only [E]
  rw [if_pos h0, if_pos h1, if_pos hi0, if_pos hi1, l01In_some, Option.bind_some, w64 (x := k - 1) (by omega) (by omega)]
  show (if decide (0 ≤ rd (rdOf z71 a k).f5 i ∧ rd (rdOf z71 a k).f5 i ≤ k - 1) = true then _ else _) = _
  by_cases c : 0 ≤ rd (rdOf z71 a k).f5 i ∧ rd (rdOf z71 a k).f5 i ≤ k - 1
  · rw [if_pos (by simpa using c), if_pos c]
    rw [if_pos c.1, if_pos (show rd (rdOf z71 a k).f5 i < (a.length : Int) by omega)]
  · rw [if_neg (by simpa using c), if_neg c]
theorem l05Values_l0 (a : List S71) (b : List S111) (c : List S115) (k m : Int) (h0 : 0 ≤ k) (h1 : k < a.length) (hm : m ≤ (rdOf z71 a k).f5.length) (ha : fitN a) (n : Nat) : ∀ i : Int, 0 ≤ i → m - i ≤ n →
    Ev (fun j => spec_l05Values.l0 j k m i a b c) ((((rdOf z71 a k).f5.take m.toNat).drop i.toNat).all (fun x => isV (kidK a k x))) := by
  have hl : (rdOf z71 a k).f5.length ≤ 1048576 := (ha.2 _ (rdOf_mem h0 h1)).2.2.2
  have htl : ((rdOf z71 a k).f5.take m.toNat).length = m.toNat := by
    rw [List.length_take]
    omega
  induction n with
  | zero =>
    intro i hi hn
    refine ev_step ?_
    simp only [spec_l05Values.l0]
    refine ev_neg (by omega) (ev_eq ?_ (ev_ret _))
    rw [List.drop_eq_nil_of_le (by omega)]
    rfl
  | succ n ih =>
    intro i hi hn
    refine ev_step ?_
    simp only [spec_l05Values.l0]
    refine ev_ite (fun c1 => ?_) (fun c1 => ?_)
    · refine ev_bindc (l05Kid_some a b c k i h0 h1 hi (by omega) ha.1) (ev_bindc (isV_l01 _) ?_)
      have hr : ((rdOf z71 a k).f5.take m.toNat).drop i.toNat = rd (rdOf z71 a k).f5 i :: ((rdOf z71 a k).f5.take m.toNat).drop (i + 1).toNat := by
        rw [drop_rd' hi (by omega)]
        congr 1
        unfold rd
        rw [List.getD_eq_getElem?_getD, List.getD_eq_getElem?_getD, List.getElem?_take_of_lt (by omega)]
      rw [hr, List.all_cons]
      refine ev_ite (fun c2 => ?_) (fun c2 => ?_)
      · rw [c2, Bool.true_and, w64 (x := i + 1) (by omega) (by omega)]
        exact ih (i + 1) (by omega) (by omega)
      · rw [Bool.not_eq_true] at c2
        rw [c2]
        exact ev_ret _
    · refine ev_eq ?_ (ev_ret _)
      rw [List.drop_eq_nil_of_le (by omega)]
      rfl
theorem l05Values_ev (a : List S71) (b : List S111) (c : List S115) (k m : Int) (h0 : 0 ≤ k) (h1 : k < a.length) (hm0 : 0 ≤ m) (hm : m ≤ (rdOf z71 a k).f5.length) (ha : fitN a) :
    Ev (fun j => spec_l05Values.f j a b c k m) (((rdOf z71 a k).f5.take m.toNat).all (fun x => isV (kidK a k x))) := by
  unfold spec_l05Values.f
  exact l05Values_l0 a b c k m h0 h1 hm ha m.toNat 0 (by omega) (by omega)
theorem l05Blocks_l0 (a : List S71) (b : List S111) (c : List S115) (k : Int) (h0 : 0 ≤ k) (h1 : k < a.length) (ha : fitN a) (n : Nat) : ∀ i : Int, 0 ≤ i → ((rdOf z71 a k).f5.length : Int) - i ≤ n →
    Ev (fun j => spec_l05Blocks.l0 j k i a b c) (((rdOf z71 a k).f5.drop i.toNat).all (fun x => isB (kidK a k x))) := by
  have hl : (rdOf z71 a k).f5.length ≤ 1048576 := (ha.2 _ (rdOf_mem h0 h1)).2.2.2
  induction n with
  | zero =>
    intro i hi hn
    refine ev_step ?_
    simp only [spec_l05Blocks.l0]
    refine ev_pos h0 (ev_pos h1 (ev_neg (by show ¬ i < ((rdOf z71 a k).f5.length : Int); omega) (ev_eq ?_ (ev_ret _))))
    rw [List.drop_eq_nil_of_le (by omega)]
    rfl
  | succ n ih =>
    intro i hi hn
    refine ev_step ?_
    simp only [spec_l05Blocks.l0]
    refine ev_pos h0 (ev_pos h1 (ev_ite (fun c1 => ?_) (fun c1 => ?_)))
    · have c1 : i < ((rdOf z71 a k).f5.length : Int) := c1
      refine ev_bindc (l05Kid_some a b c k i h0 h1 hi (by omega) ha.1) ?_
      rw [drop_rd' hi (by omega), List.all_cons]
      refine ev_ite (fun c2 => ?_) (fun c2 => ?_)
      · rw [show isB (kidK a k (rd (rdOf z71 a k).f5 i)) = true from decide_eq_true c2, Bool.true_and, w64 (x := i + 1) (by omega) (by omega)]
        exact ih (i + 1) (by omega) (by omega)
      · rw [show isB (kidK a k (rd (rdOf z71 a k).f5 i)) = false from decide_eq_false c2]
        exact ev_ret _
    · have c1 : ¬ i < ((rdOf z71 a k).f5.length : Int) := c1
      refine ev_eq ?_ (ev_ret _)
      rw [List.drop_eq_nil_of_le (by omega)]
      rfl
theorem l05Blocks_ev (a : List S71) (b : List S111) (c : List S115) (k m : Int) (h0 : 0 ≤ k) (h1 : k < a.length) (hm0 : 0 ≤ m) (ha : fitN a) :
    Ev (fun j => spec_l05Blocks.f j a b c k m) (((rdOf z71 a k).f5.drop m.toNat).all (fun x => isB (kidK a k x))) := by
  unfold spec_l05Blocks.f
  exact l05Blocks_l0 a b c k h0 h1 ha (rdOf z71 a k).f5.length m (by omega) (by omega)
theorem l05Kids_l0 (a : List S71) (b : List S111) (c : List S115) (k m : Int) (h0 : 0 ≤ k) (h1 : k < a.length) (hm : m = (rdOf z71 a k).f5.length) (ha : fitN a) (n : Nat) : ∀ i : Int, 0 ≤ i → ((rdOf z71 a k).f5.length : Int) - i ≤ n →
    Ev (fun j => spec_l05Kids.l0 j k m i a b c) (((rdOf z71 a k).f5.drop i.toNat).all (fun x => isSt (kidK a k x)) && decide (1 ≤ m ∧ m ≤ 12)) := by
  have hl : (rdOf z71 a k).f5.length ≤ 1048576 := (ha.2 _ (rdOf_mem h0 h1)).2.2.2
  induction n with
  | zero =>
    intro i hi hn
    refine ev_step ?_
    simp only [spec_l05Kids.l0]
    refine ev_neg (by omega) (ev_bindc (l01In_some _ _ _) (ev_eq ?_ (ev_ret _)))
    rw [List.drop_eq_nil_of_le (by omega)]
    rfl
  | succ n ih =>
    intro i hi hn
    refine ev_step ?_
    simp only [spec_l05Kids.l0]
    refine ev_ite (fun c1 => ?_) (fun c1 => ?_)
    · refine ev_bindc (l05Kid_some a b c k i h0 h1 hi (by omega) ha.1) (ev_bindc (isSt_l01 _) ?_)
      rw [drop_rd' hi (by omega), List.all_cons]
      refine ev_ite (fun c2 => ?_) (fun c2 => ?_)
      · rw [c2, Bool.true_and, w64 (x := i + 1) (by omega) (by omega)]
        exact ih (i + 1) (by omega) (by omega)
      · rw [Bool.not_eq_true] at c2
        rw [c2]
        exact ev_ret _
    · refine ev_bindc (l01In_some _ _ _) (ev_eq ?_ (ev_ret _))
      rw [List.drop_eq_nil_of_le (by omega)]
      rfl
theorem l05Kids_j1 (a : List S71) (b : List S111) (c : List S115) (k m t : Int) (x38 : Bool) (h0 : 0 ≤ k) (h1 : k < a.length) (hm : m = (rdOf z71 a k).f5.length) (ha : fitN a) (hx : x38 = decide (t = 4 ∨ t = 5 ∨ t = 11 ∨ t = 14 ∨ t = 15))
    (ht : ¬ (t = 1 ∨ t = 2 ∨ t = 16 ∨ t = 17 ∨ t = 18 ∨ t = 19)) (ht3 : ¬ t = 3) :
    Ev (fun j => spec_l05Kids.j1 j k m t x38 a b c) (shapeP a k t (rdOf z71 a k).f5) := by
  have V := fun (q : Int) (h : 0 ≤ q) (h' : q ≤ (rdOf z71 a k).f5.length) => l05Values_ev a b c k q h0 h1 h h' ha
  have B := l05Blocks_ev a b c k 1 h0 h1 (by omega) ha
  refine ev_step ?_
  simp only [spec_l05Kids.j1]
  unfold shapeP
  rw [if_neg ht, if_neg ht3, ← hm]
  refine ev_ite (fun c1 => ?_) (fun c1 => ?_)
  · rw [if_pos (of_decide_eq_true (hx ▸ c1))]
    refine ev_ite (fun c2 => ?_) (fun c2 => ?_)
    · rw [show decide (m = 1) = true from decide_eq_true c2, Bool.true_and]
      exact Ev.bind (V 1 (by omega) (by omega)) (ev_ret _)
    · rw [show decide (m = 1) = false from decide_eq_false c2]
      exact ev_ret _
  · rw [if_neg (fun h => c1 (hx.trans (decide_eq_true h)))]
    refine ev_ite (fun c2 => ?_) (fun c2 => ?_)
    · rw [if_pos c2]
      refine ev_ite (fun c3 => ?_) (fun c3 => ?_)
      · rw [show decide (m = 2 ∨ m = 3) = true from decide_eq_true (.inl c3), Bool.true_and]
        refine Ev.bind (V 1 (by omega) (by omega)) (ev_ite (fun c4 => ?_) (fun c4 => ?_))
        · refine Ev.bind B (ev_eq ?_ (ev_ret _))
          rw [show (List.take 1 (rdOf z71 a k).f5).all _ = true from c4]
          rfl
        · refine ev_eq ?_ (ev_ret _)
          rw [Bool.not_eq_true] at c4
          rw [show (List.take 1 (rdOf z71 a k).f5).all _ = false from c4]
          rfl
      · refine ev_ite (fun c5 => ?_) (fun c5 => ?_)
        · rw [show decide (m = 2 ∨ m = 3) = true from decide_eq_true (.inr c5), Bool.true_and]
          refine Ev.bind (V 1 (by omega) (by omega)) (ev_ite (fun c4 => ?_) (fun c4 => ?_))
          · refine Ev.bind B (ev_eq ?_ (ev_ret _))
            rw [show (List.take 1 (rdOf z71 a k).f5).all _ = true from c4]
            rfl
          · refine ev_eq ?_ (ev_ret _)
            rw [Bool.not_eq_true] at c4
            rw [show (List.take 1 (rdOf z71 a k).f5).all _ = false from c4]
            rfl
        · rw [show decide (m = 2 ∨ m = 3) = false from decide_eq_false (by omega)]
          exact ev_ret _
    · rw [if_neg c2]
      refine ev_ite (fun c3 => ?_) (fun c3 => ?_)
      · rw [if_pos c3]
        refine ev_ite (fun c5 => ?_) (fun c5 => ?_)
        · rw [show decide (m = 2) = true from decide_eq_true c5, Bool.true_and]
          refine Ev.bind (V 1 (by omega) (by omega)) (ev_ite (fun c4 => ?_) (fun c4 => ?_))
          · refine Ev.bind B (ev_eq ?_ (ev_ret _))
            rw [show (List.take 1 (rdOf z71 a k).f5).all _ = true from c4]
            rfl
          · refine ev_eq ?_ (ev_ret _)
            rw [Bool.not_eq_true] at c4
            rw [show (List.take 1 (rdOf z71 a k).f5).all _ = false from c4]
            rfl
        · rw [show decide (m = 2) = false from decide_eq_false c5]
          exact ev_ret _
      · rw [if_neg c3]
        exact l05Kids_l0 a b c k m h0 h1 hm ha (rdOf z71 a k).f5.length 0 (by omega) (by omega)
theorem l05Kids_j0 (a : List S71) (b : List S111) (c : List S115) (k m t : Int) (x20 : Bool) (h0 : 0 ≤ k) (h1 : k < a.length) (hm : m = (rdOf z71 a k).f5.length) (ha : fitN a) (hx : x20 = decide (t = 1 ∨ t = 2 ∨ t = 16 ∨ t = 17 ∨ t = 18 ∨ t = 19)) :
    Ev (fun j => spec_l05Kids.j0 j k m t x20 a b c) (shapeP a k t (rdOf z71 a k).f5) := by
  refine ev_step ?_
  simp only [spec_l05Kids.j0]
  refine ev_ite (fun c1 => ?_) (fun c1 => ?_)
  · refine ev_eq ?_ (ev_ret _)
    unfold shapeP
    rw [if_pos (of_decide_eq_true (hx ▸ c1)), ← hm]
    rfl
  · have ht : ¬ (t = 1 ∨ t = 2 ∨ t = 16 ∨ t = 17 ∨ t = 18 ∨ t = 19) := fun h => c1 (hx.trans (decide_eq_true h))
    refine ev_ite (fun c2 => ?_) (fun c2 => ?_)
    · unfold shapeP
      rw [if_neg ht, if_pos c2, ← hm]
      refine ev_ite (fun c3 => ?_) (fun c3 => ?_)
      · rw [show decide (m = 2) = true from decide_eq_true c3, Bool.true_and]
        exact Ev.bind (l05Values_ev a b c k 2 h0 h1 (by omega) (by omega) ha) (ev_ret _)
      · rw [show decide (m = 2) = false from decide_eq_false c3]
        exact ev_ret _
    · have J := fun (x : Bool) (hx : x = decide (t = 4 ∨ t = 5 ∨ t = 11 ∨ t = 14 ∨ t = 15)) => l05Kids_j1 a b c k m t x h0 h1 hm ha hx ht c2
      refine ev_ite (fun c3 => J _ (by subst c3; rfl)) (fun c3 => ev_ite (fun c4 => J _ (by subst c4; rfl)) (fun c4 => ev_ite (fun c5 => J _ (by subst c5; rfl)) (fun c5 => ev_ite (fun c6 => J _ (by subst c6; rfl)) (fun c6 => J _ ?_))))
      rw [Bool.eq_iff_iff, beq_iff_eq, decide_eq_true_iff]
      omega
theorem l05Kids_ev (a : List S71) (b : List S111) (c : List S115) (k : Int) (h0 : 0 ≤ k) (h1 : k < a.length) (ha : fitN a) :
    Ev (fun j => spec_l05Kids.f j a b c k) (shapeP a k (rdOf z71 a k).f0 (rdOf z71 a k).f5) := by
  have J := fun (x : Bool) (hx : x = decide ((rdOf z71 a k).f0 = 1 ∨ (rdOf z71 a k).f0 = 2 ∨ (rdOf z71 a k).f0 = 16 ∨ (rdOf z71 a k).f0 = 17 ∨ (rdOf z71 a k).f0 = 18 ∨ (rdOf z71 a k).f0 = 19)) => l05Kids_j0 a b c k _ (rdOf z71 a k).f0 x h0 h1 rfl ha hx
  unfold spec_l05Kids.f
  generalize ht : (rdOf z71 a k).f0 = t at J
  have ht' : (rd_T71 a k).f0 = t := ht
  simp only [ht']
  refine ev_pos h0 (ev_pos h1 ?_)
  refine ev_ite (fun c3 => J _ (by subst c3; rfl)) (fun c3 => ev_ite (fun c4 => J _ (by subst c4; rfl)) (fun c4 => ev_ite (fun c5 => J _ (by subst c5; rfl)) (fun c5 => ev_ite (fun c6 => J _ (by subst c6; rfl)) (fun c6 => ev_ite (fun c7 => J _ (by subst c7; rfl)) (fun c7 => J _ ?_)))))
  rw [Bool.eq_iff_iff, beq_iff_eq, decide_eq_true_iff]
  omega
theorem spec_NodeOk_j5 (t num : Int) (s2 s3 s4 : ByteArray) (ks : List Int) :
    Ev (fun j => spec_NodeOk.j5 j t num s2 s3 s4 ks) (if t = 1 then decide (0 ≤ num ∧ num ≤ 1000000) else if t = 3 then decide (1 ≤ num ∧ num ≤ 9) else decide (num = 0)) := by
  refine ev_step ?_
  simp only [spec_NodeOk.j5]
  refine ev_ite (fun c1 => ?_) (fun c1 => ?_)
  · rw [if_pos c1]
    exact ev_bindc (l01In_some _ _ _) (ev_ret _)
  · rw [if_neg c1]
    refine ev_ite (fun c2 => ?_) (fun c2 => ?_)
    · rw [if_pos c2]
      exact ev_bindc (l01In_some _ _ _) (ev_ret _)
    · rw [if_neg c2]
      exact ev_ret _
theorem spec_NodeOk_j4 (bad : Bool) (t num : Int) (s2 s3 s4 : ByteArray) (ks : List Int) (h3 : s3.size ≤ 1048576) (h4 : s4.size ≤ 1048576) :
    Ev (fun j => spec_NodeOk.j4 j bad t num s2 s3 s4 ks) (!bad && ((if t = 14 then nameP s3 && (emp s4 || nameP s4) else emp s3 && emp s4) && (if t = 1 then decide (0 ≤ num ∧ num ≤ 1000000) else if t = 3 then decide (1 ≤ num ∧ num ≤ 9) else decide (num = 0)))) := by
  have J := spec_NodeOk_j5 t num s2 s3 s4 ks
  refine ev_step ?_
  simp only [spec_NodeOk.j4]
  refine ev_ite (fun c1 => ?_) (fun c1 => ?_)
  · rw [c1]
    exact ev_ret _
  · rw [show bad = false by simpa using c1, Bool.not_false, Bool.true_and]
    refine ev_ite (fun c2 => ?_) (fun c2 => ?_)
    · rw [if_pos c2]
      refine Ev.bind (spec_NameOk_ev s3 (by omega)) (ev_ite (fun c3 => ?_) (fun c3 => ?_))
      · rw [c3, Bool.true_and]
        refine ev_ite (fun c4 => ?_) (fun c4 => ?_)
        · rw [show emp s4 = true from decide_eq_true c4, Bool.true_or, Bool.true_and]
          exact J
        · rw [show emp s4 = false from decide_eq_false c4, Bool.false_or]
          refine Ev.bind (spec_NameOk_ev s4 (by omega)) (ev_ite (fun c5 => ?_) (fun c5 => ?_))
          · rw [c5, Bool.true_and]
            exact J
          · rw [show nameP s4 = false by simpa using c5]
            exact ev_ret _
      · rw [show nameP s3 = false by simpa using c3]
        exact ev_ret _
    · rw [if_neg c2]
      refine ev_ite (fun c3 => ?_) (fun c3 => ?_)
      · rw [show emp s3 = true from decide_eq_true c3, Bool.true_and]
        refine ev_ite (fun c4 => ?_) (fun c4 => ?_)
        · rw [show emp s4 = true from decide_eq_true c4, Bool.true_and]
          exact J
        · rw [show emp s4 = false from decide_eq_false c4]
          exact ev_ret _
      · rw [show emp s3 = false from decide_eq_false c3]
        exact ev_ret _
theorem spec_NodeOk_j2 (bad : Bool) (t num : Int) (s2 s3 s4 : ByteArray) (ks : List Int) (h2 : s2.size ≤ 1048576) (h3 : s3.size ≤ 1048576) (h4 : s4.size ≤ 1048576) :
    Ev (fun j => spec_NodeOk.j2 j bad t num s2 s3 s4 ks) (!bad && namesP t num s2 s3 s4) := by
  have J := fun x => spec_NodeOk_j4 x t num s2 s3 s4 ks h3 h4
  have K : ∀ x : Bool, x = decide (t = 2 ∨ t = 11 ∨ t = 16 ∨ t = 17 ∨ t = 18 ∨ t = 14) → Ev (fun j => spec_NodeOk.j3 j x t num s2 s3 s4 ks) (namesP t num s2 s3 s4) := by
    intro x hx
    refine ev_step ?_
    simp only [spec_NodeOk.j3]
    unfold namesP
    refine ev_ite (fun c1 => ?_) (fun c1 => ?_)
    · rw [if_pos (of_decide_eq_true (hx ▸ c1))]
      refine Ev.bind (spec_NameOk_ev s2 (by omega)) (ev_ite (fun c3 => ?_) (fun c3 => ?_))
      · rw [c3]
        exact J false
      · rw [show nameP s2 = false by simpa using c3]
        exact J true
    · rw [if_neg (fun h => c1 (hx.trans (decide_eq_true h)))]
      refine ev_eq ?_ (J _)
      rw [show (!(s2.toList != ([] : List UInt8))) = emp s2 by unfold emp; rw [Bool.eq_iff_iff]; simp]
  refine ev_step ?_
  simp only [spec_NodeOk.j2]
  refine ev_ite (fun c1 => ?_) (fun c1 => ?_)
  · rw [c1]
    exact ev_ret _
  · rw [show bad = false by simpa using c1, Bool.not_false, Bool.true_and]
    refine ev_ite (fun c3 => K _ (by subst c3; rfl)) (fun c3 => ev_ite (fun c4 => K _ (by subst c4; rfl)) (fun c4 => ev_ite (fun c5 => K _ (by subst c5; rfl)) (fun c5 => ev_ite (fun c6 => K _ (by subst c6; rfl)) (fun c6 => ev_ite (fun c7 => K _ (by subst c7; rfl)) (fun c7 => K _ ?_)))))
    rw [Bool.eq_iff_iff, beq_iff_eq, decide_eq_true_iff]
    omega
theorem spec_NodeOk_l1 (a : List S71) (b : List S111) (c : List S115) (k t num : Int) (s2 s3 s4 : ByteArray) (ks : List Int) (hl : ks.length ≤ 1048576) (i : Int) (hi : 0 ≤ i) (hi1 : i < ks.length) (r : Bool)
    (hnext : Ev (fun j => spec_NodeOk.l0 j k (i + 1) a b c t num s2 s3 s4 ks) r) (n : Nat) : ∀ q : Int, 0 ≤ q → i - q ≤ n →
    Ev (fun j => spec_NodeOk.l1 j k i q a b c t num s2 s3 s4 ks) (!decide (rd ks i ∈ (ks.take i.toNat).drop q.toNat) && r) := by
  have htl : (ks.take i.toNat).length = i.toNat := by
    rw [List.length_take]
    omega
  have fin : Ev (fun j => spec_NodeOk.l0 j k (wrap64 (i + 1)) a b c t num s2 s3 s4 ks) r := by
    rw [w64 (x := i + 1) (by omega) (by omega)]
    exact hnext
  induction n with
  | zero =>
    intro q hq hn
    refine ev_step ?_
    simp only [spec_NodeOk.l1]
    refine ev_neg (by omega) ?_
    rw [List.drop_eq_nil_of_le (by omega)]
    simpa using fin
  | succ n ih =>
    intro q hq hn
    refine ev_step ?_
    simp only [spec_NodeOk.l1]
    refine ev_ite (fun c1 => ?_) (fun c1 => ?_)
    · refine ev_pos hi (ev_pos hi1 (ev_pos hq (ev_pos (by omega) ?_)))
      have hr : (ks.take i.toNat).drop q.toNat = rd ks q :: (ks.take i.toNat).drop (q + 1).toNat := by
        rw [drop_rd' hq (by omega)]
        congr 1
        unfold rd
        rw [List.getD_eq_getElem?_getD, List.getD_eq_getElem?_getD, List.getElem?_take_of_lt (by omega)]
      rw [hr]
      refine ev_ite (fun c2 => ?_) (fun c2 => ?_)
      · refine ev_eq ?_ (ev_ret _)
        rw [decide_eq_true (show rd ks i ∈ rd ks q :: (ks.take i.toNat).drop (q + 1).toNat by rw [c2]; exact List.mem_cons_self ..)]
        rfl
      · rw [w64 (x := q + 1) (by omega) (by omega)]
        refine ev_eq ?_ (ih (q + 1) (by omega) (by omega))
        congr 2
        rw [decide_eq_decide, List.mem_cons]
        exact ⟨.inr, fun h => h.resolve_left c2⟩
    · rw [List.drop_eq_nil_of_le (by omega)]
      simpa using fin
theorem spec_NodeOk_l0 (a : List S71) (b : List S111) (c : List S115) (k : Int) (h0 : 0 ≤ k) (h1 : k < a.length) (ha : fitN a) (n : Nat) : ∀ i : Int, 0 ≤ i → ((rdOf z71 a k).f5.length : Int) - i = n →
    Ev (fun j => spec_NodeOk.l0 j k i a b c (rdOf z71 a k).f0 (rdOf z71 a k).f1 (rdOf z71 a k).f2 (rdOf z71 a k).f3 (rdOf z71 a k).f4 (rdOf z71 a k).f5)
      (nodupP ((rdOf z71 a k).f5.take i.toNat) ((rdOf z71 a k).f5.drop i.toNat) && ((kindP (rdOf z71 a k).f0 && shapeP a k (rdOf z71 a k).f0 (rdOf z71 a k).f5) && namesP (rdOf z71 a k).f0 (rdOf z71 a k).f1 (rdOf z71 a k).f2 (rdOf z71 a k).f3 (rdOf z71 a k).f4)) := by
  obtain ⟨g2, g3, g4, hl⟩ := ha.2 _ (rdOf_mem h0 h1)
  have S := l05Kids_ev a b c k h0 h1 ha
  have J := fun x => spec_NodeOk_j2 x (rdOf z71 a k).f0 (rdOf z71 a k).f1 (rdOf z71 a k).f2 (rdOf z71 a k).f3 (rdOf z71 a k).f4 (rdOf z71 a k).f5 g2 g3 g4
  generalize shapeP a k (rdOf z71 a k).f0 (rdOf z71 a k).f5 = sh at S ⊢
  generalize (rdOf z71 a k).f0 = t at S J ⊢
  generalize (rdOf z71 a k).f1 = num at J ⊢
  generalize (rdOf z71 a k).f2 = s2 at J ⊢
  generalize (rdOf z71 a k).f3 = s3 at J ⊢
  generalize (rdOf z71 a k).f4 = s4 at J ⊢
  generalize (rdOf z71 a k).f5 = ks at J hl ⊢
  induction n with
  | zero =>
    intro i hi hn
    refine ev_step ?_
    simp only [spec_NodeOk.l0]
    rw [List.drop_eq_nil_of_le (by omega)]
    refine ev_neg (by omega) (ev_bindc (isV_l01 _) ?_)
    refine ev_ite (fun c1 => ?_) (fun c1 => ?_)
    · refine Ev.bind S (ev_eq ?_ (J _))
      simp [nodupP, kindP, c1]
    · refine ev_bindc (isSt_l01 _) (ev_ite (fun c2 => ?_) (fun c2 => ?_))
      · refine Ev.bind S (ev_eq ?_ (J _))
        simp [nodupP, kindP, c2]
      · refine ev_ite (fun c3 => ?_) (fun c3 => ?_)
        · refine Ev.bind S (ev_eq ?_ (J _))
          simp [nodupP, kindP, isB, c3]
        · refine ev_eq ?_ (J _)
          rw [Bool.not_eq_true] at c1 c2
          simp [nodupP, kindP, isB, c1, c2, c3]
  | succ n ih =>
    intro i hi hn
    refine ev_step ?_
    simp only [spec_NodeOk.l0]
    refine ev_pos (by omega) ?_
    refine ev_eq ?_ (spec_NodeOk_l1 a b c k t num s2 s3 s4 ks hl i hi (by omega) _ (ih (i + 1) (by omega) (by omega)) i.toNat 0 (by omega) (by omega))
    rw [drop_rd' hi (show i < ks.length by omega), take_rd 0 hi (show i < ks.length by omega)]
    rw [nodupP_cons, Int.toNat_zero, List.drop_zero]
    exact (Bool.and_assoc _ _ _).symm
theorem spec_NodeOk_ev (a : List S71) (b : List S111) (c : List S115) (k : Int) (ha : fitN a) : Ev (fun j => spec_NodeOk.f j a b c k) (nodeP a k) := by
  unfold spec_NodeOk.f nodeP
  refine ev_bindc (l01In_some _ _ _) ?_
  have hl := ha.1
  rw [w64 (x := (a.length : Int) - 1) (by omega) (by omega)]
  refine ev_ite (fun c1 => ?_) (fun c1 => ?_)
  · have c2 : 0 ≤ k ∧ k < a.length := by have := of_decide_eq_true c1; omega
    rw [if_pos c2]
    exact ev_pos c2.1 (ev_pos c2.2 (spec_NodeOk_l0 a b c k c2.1 c2.2 ha (rdOf z71 a k).f5.length 0 (by omega) (by omega)))
  · rw [if_neg (fun h => c1 (decide_eq_true (by omega)))]
    exact ev_ret _

/-- How many of the first elements pass a test. -/
def runL (p : Int → Bool) : List Int → Nat
  | [] => 0
  | c :: l => if p c = true then runL p l + 1 else 0
theorem runL_le (p : Int → Bool) : ∀ l, runL p l ≤ l.length
  | [] => Nat.le_refl _
  | c :: l => by
    have := runL_le p l
    unfold runL
    split
    · simp
      omega
    · omega
theorem runL_all (p : Int → Bool) : ∀ l, runL p l = l.length ↔ l.all p = true
  | [] => by simp [runL]
  | c :: l => by
    have h := runL_all p l
    unfold runL
    by_cases g : p c = true
    · rw [if_pos g]
      simp [g, h]
    · rw [if_neg g]
      simp [g]

theorem impl_letter_some (c : Int) : impl_letter.f c = some (isLet c) := by
  unfold impl_letter.f isLet
  by_cases g : c ≥ 97
  · rw [if_pos g]
    simp [g]
  · rw [if_neg g]
    have g' : ¬ 97 ≤ c := g
    simp [g']
theorem run_letter_l0 (s : ByteArray) (hs : s.size ≤ 140737488351232) (n : Nat) : ∀ i : Int, 0 ≤ i → i ≤ s.size → (s.size : Int) - i = n → Ev (fun k => impl_run_impl_letter.l0 k s i) (i + runL isLet ((bs s).drop i.toNat)) := by
  induction n with
  | zero =>
    intro i h0 h1 hn
    refine ev_step ?_
    simp only [impl_run_impl_letter.l0]
    rw [bs_end h0 (by omega)]
    exact ev_neg (by omega) (ev_eq (by simp [runL]) (ev_ret _))
  | succ n ih =>
    intro i h0 h1 hn
    refine ev_step ?_
    simp only [impl_run_impl_letter.l0]
    rw [bs_drop h0 (by omega)]
    refine ev_pos (by omega) (ev_pos h0 (ev_bindc (impl_letter_some _) ?_))
    unfold runL
    by_cases g : isLet (bt s i) = true
    · rw [if_pos g, w64 (x := i + 1) (by omega) (by omega)]
      exact ev_pos g (ev_eq (by omega) (ih (i + 1) (by omega) (by omega) (by omega)))
    · rw [if_neg g]
      exact ev_neg g (ev_eq (by simp) (ev_ret _))
theorem run_letter_ev (s : ByteArray) (hs : s.size ≤ 140737488351232) (i : Int) (h0 : 0 ≤ i) (h1 : i ≤ s.size) : Ev (fun k => impl_run_impl_letter.f k s i) (i + runL isLet ((bs s).drop i.toNat)) :=
  run_letter_l0 s hs _ i h0 h1 (Int.toNat_of_nonneg (by omega)).symm

/-- The first place of a text in a list, counted from j on; -1 without it. -/
def idxT (s : ByteArray) : List ByteArray → Int → Int
  | [], _ => -1
  | y :: l, j => if y = s then j else idxT s l (j + 1)
theorem idxT_mem (s : ByteArray) : ∀ (l : List ByteArray) (j : Int), 0 ≤ j → (idxT s l j ≥ 0 ↔ s ∈ l)
  | [], j, _ => by simp [idxT]
  | y :: l, j, h => by
    unfold idxT
    by_cases c : y = s
    · rw [if_pos c]
      simp [c, h]
    · rw [if_neg c, idxT_mem s l (j + 1) (by omega)]
      have c' : ¬ s = y := fun h => c h.symm
      simp [c']
theorem slices_Index_l0 (l : List ByteArray) (s : ByteArray) (hl : l.length ≤ 140737488351232) (n : Nat) : ∀ (i : Int), 0 ≤ i → (l.length : Int) - i = n → Ev (fun k => slices_Index_string_string.l0 k l s (l.length : Int) i) (idxT s (l.drop i.toNat) i) := by
  induction n with
  | zero =>
    intro i h0 hi
    refine ev_step ?_
    simp only [slices_Index_string_string.l0]
    rw [drop_end h0 (by omega)]
    exact ev_neg (by omega) (ev_ret _)
  | succ n ih =>
    intro i h0 hi
    refine ev_step ?_
    simp only [slices_Index_string_string.l0]
    refine ev_pos (by omega) (ev_pos h0 (ev_pos (by omega) ?_))
    rw [drop_rd (d := ByteArray.empty) h0 (by omega)]
    unfold idxT
    by_cases c : s.toList = (rdOf ByteArray.empty l i).toList
    · refine ev_pos c (ev_eq ?_ (ev_ret _))
      rw [toList_eq_iff] at c
      rw [if_pos c.symm]
    · refine ev_neg c ?_
      rw [w64 (x := i + 1) (by omega) (by omega)]
      refine ev_eq ?_ (ih (i + 1) (by omega) (by omega))
      rw [toList_eq_iff] at c
      rw [if_neg (fun h => c h.symm)]
theorem slices_Index_ev (l : List ByteArray) (s : ByteArray) (hl : l.length ≤ 140737488351232) : Ev (fun k => slices_Index_string_string.f k l s) (idxT s l 0) :=
  slices_Index_l0 l s hl l.length 0 (by omega) (by omega)

theorem slices_Contains_ev (l : List ByteArray) (s : ByteArray) (hl : l.length ≤ 140737488351232) : Ev (fun k => slices_Contains_string_string.f k l s) (decide (s ∈ l)) := by
  unfold slices_Contains_string_string.f
  refine Ev.bind (slices_Index_ev l s hl) (ev_eq ?_ (ev_ret _))
  rw [decide_eq_decide]
  exact idxT_mem s l 0 (by omega)

theorem impl_KeyWord_ev (s : ByteArray) : Ev (fun k => impl_KeyWord.f k s) (isKey s) := by
  unfold impl_KeyWord.f
  exact Ev.bind (slices_Contains_ev keyList s (by decide)) (ev_ret _)

theorem impl_NameOk_ev (s : ByteArray) (hs : s.size ≤ 140737488351232) : Ev (fun k => impl_NameOk.f k s) (nameP s) := by
  unfold impl_NameOk.f
  rw [within_some]
  refine ev_bindc rfl ?_
  have hl := bs_length s
  have ha := runL_all isLet (bs s)
  have hr := run_letter_ev s hs 0 (by omega) (by omega)
  simp only [Int.toNat_zero, List.drop_zero, Int.zero_add] at hr
  unfold nameP
  by_cases c : 1 ≤ s.size ∧ s.size ≤ 8
  · refine ev_pos (by simp; omega) (Ev.bind hr ?_)
    by_cases c2 : (bs s).all isLet = true
    · refine ev_pos ?_ (Ev.bind (impl_KeyWord_ev s) (ev_eq ?_ (ev_ret _)))
      · have := ha.2 c2
        omega
      · simp only [c2, Bool.and_true]
        simp [c]
    · refine ev_neg ?_ (ev_eq ?_ (ev_ret _))
      · intro h
        exact c2 (ha.1 (by omega))
      · have c3 : (bs s).all isLet = false := by simpa using c2
        rw [c3]
        simp
  · refine ev_neg (by simp; omega) (ev_eq ?_ (ev_ret _))
    rw [show decide (1 ≤ s.size ∧ s.size ≤ 8) = false by simpa using c]
    rfl

theorem isNode_some (a : List S71) (b : List S111) (c : List S115) (x : Int) (ha : a.length ≤ 1048576) : impl_isNode.f a b c x = some (decide (0 ≤ x ∧ x < a.length)) := by
  unfold impl_isNode.f
  rw [within_some, Option.bind_some, w64 (x := (a.length : Int) - 1) (by omega) (by omega), Option.some.injEq, decide_eq_decide]
  omega
theorem isKind_go {a : List S71} {x : Int} (h0 : 0 ≤ x) (h1 : x < a.length) (f : Option Bool) (g : Option Bool) (r : Bool) (h : f = some r) :
    (if decide (0 ≤ x ∧ x < (a.length : Int)) = true then (if 0 ≤ x then (if x < (a.length : Int) then f else none) else none) else g) = some r := by
  rw [if_pos (decide_eq_true ⟨h0, h1⟩), if_pos h0, if_pos h1, h]
theorem isValue_some (a : List S71) (b : List S111) (c : List S115) (x : Int) (ha : a.length ≤ 1048576) (h0 : 0 ≤ x) (h1 : x < a.length) : impl_isValue.f a b c x = some (isV (rdOf z71 a x).f0) := by
  unfold impl_isValue.f
  rw [isNode_some a b c x ha, Option.bind_some]
  refine isKind_go h0 h1 _ _ _ ?_
  rw [within_some, Option.bind_some]
  rfl
theorem isBlock_some (a : List S71) (b : List S111) (c : List S115) (x : Int) (ha : a.length ≤ 1048576) (h0 : 0 ≤ x) (h1 : x < a.length) : impl_isBlock.f a b c x = some (isB (rdOf z71 a x).f0) := by
  unfold impl_isBlock.f
  rw [isNode_some a b c x ha, Option.bind_some]
  refine isKind_go h0 h1 _ _ _ ?_
  rw [Option.some.injEq, Bool.eq_iff_iff, beq_iff_eq]
  unfold isB
  rw [decide_eq_true_iff]
  rfl
theorem isStatement_some (a : List S71) (b : List S111) (c : List S115) (x : Int) (ha : a.length ≤ 1048576) (h0 : 0 ≤ x) (h1 : x < a.length) : impl_isStatement.f a b c x = some (isSt (rdOf z71 a x).f0) := by
  unfold impl_isStatement.f
  rw [isNode_some a b c x ha, Option.bind_some]
  refine isKind_go h0 h1 _ _ _ ?_
  rw [within_some, Option.bind_some]
  rfl
/-- Kids that lie ahead of a node. -/
def ahead (k : Int) (ks : List Int) : Prop := ∀ x ∈ ks, 0 ≤ x ∧ x ≤ k - 1
/-- The kids from place i on, values as long as the place is below v, blocks behind. -/
def okFrom (a : List S71) (k v : Int) : List Int → Int → Bool
  | [], _ => true
  | x :: xs, i => (if i < v then isV (kidK a k x) else isB (kidK a k x)) && okFrom a k v xs (i + 1)
theorem kidsOk_l1 (a : List S71) (b : List S111) (c : List S115) (k v m : Int) (ks : List Int) (hk : k < a.length) (ha : a.length ≤ 1048576) (hl : ks.length ≤ 1048576) (hm : m = ks.length) (hA : ahead k ks) (n : Nat) : ∀ i : Int, 0 ≤ i → (ks.length : Int) - i = n →
    Ev (fun j => impl_kidsOk.l1 j v ks m i a b c) (okFrom a k v (ks.drop i.toNat) i) := by
  induction n with
  | zero =>
    intro i hi hn
    refine ev_step ?_
    simp only [impl_kidsOk.l1]
    refine ev_neg (by omega) (ev_eq ?_ (ev_ret _))
    rw [List.drop_eq_nil_of_le (by omega)]
    rfl
  | succ n ih =>
    intro i hi hn
    refine ev_step ?_
    simp only [impl_kidsOk.l1]
    have hr := hA _ (rdOf_mem (d := 0) (l := ks) (i := i) hi (by omega))
    have hr0 : 0 ≤ rd ks i := hr.1
    have hr1 : rd ks i ≤ k - 1 := hr.2
    have hk1 : kidK a k (rd ks i) = (rdOf z71 a (rd ks i)).f0 := if_pos ⟨hr0, hr1⟩
    have next := ih (i + 1) (by omega) (by omega)
    have fin : Ev (fun j => impl_kidsOk.l1 j v ks m (wrap64 (i + 1)) a b c) (okFrom a k v (ks.drop (i + 1).toNat) (i + 1)) := by
      rw [w64 (x := i + 1) (by omega) (by omega)]
      exact next
    rw [drop_rd' hi (show i < ks.length by omega)]
    unfold okFrom
    rw [hk1]
    refine ev_pos (by omega) (ev_pos hi (ev_pos (by omega) (ev_ite (fun c1 => ?_) (fun c1 => ?_))))
    · rw [if_pos c1]
      refine ev_bindc (isValue_some a b c _ ha hr0 (by omega)) (ev_ite (fun c2 => ?_) (fun c2 => ?_))
      · rw [c2, Bool.true_and]
        exact ev_neg (by omega) fin
      · rw [Bool.not_eq_true] at c2
        rw [c2]
        exact ev_ret _
    · rw [if_neg c1]
      refine ev_pos (by omega) (ev_bindc (isBlock_some a b c _ ha hr0 (by omega)) (ev_ite (fun c2 => ?_) (fun c2 => ?_)))
      · rw [c2, Bool.true_and]
        exact fin
      · rw [Bool.not_eq_true] at c2
        rw [c2]
        exact ev_ret _
theorem kidsOk_j2 (a : List S71) (b : List S111) (c : List S115) (k v w : Int) (t num : Int) (s2 s3 s4 : ByteArray) (ks : List Int) (hk : k < a.length) (ha : a.length ≤ 1048576) (hl : ks.length ≤ 1048576) (hA : ahead k ks) (hv : 0 ≤ v ∧ v ≤ 2) (hw : 0 ≤ w ∧ w ≤ 2) :
    Ev (fun j => impl_kidsOk.j2 j v w a b c t num s2 s3 s4 ks) (decide ((ks.length : Int) = v + w) && okFrom a k v ks 0) := by
  refine ev_step ?_
  simp only [impl_kidsOk.j2]
  rw [w64 (x := v + w) (by omega) (by omega)]
  refine ev_ite (fun c1 => ?_) (fun c1 => ?_)
  · rw [decide_eq_true c1, Bool.true_and]
    exact kidsOk_l1 a b c k v _ ks hk ha hl rfl hA ks.length 0 (by omega) (by omega)
  · rw [decide_eq_false c1]
    exact ev_ret _
theorem kidsOk_l0 (a : List S71) (b : List S111) (c : List S115) (k m : Int) (t num : Int) (s2 s3 s4 : ByteArray) (ks : List Int) (hk : k < a.length) (ha : a.length ≤ 1048576) (hl : ks.length ≤ 1048576) (hm : m = ks.length) (hA : ahead k ks) (n : Nat) : ∀ i : Int, 0 ≤ i → (ks.length : Int) - i = n →
    Ev (fun j => impl_kidsOk.l0 j ks m i a b c t num s2 s3 s4 ks) ((ks.drop i.toNat).all (fun x => isSt (kidK a k x)) && decide (1 ≤ (ks.length : Int) ∧ (ks.length : Int) ≤ 12)) := by
  induction n with
  | zero =>
    intro i hi hn
    refine ev_step ?_
    simp only [impl_kidsOk.l0]
    refine ev_neg (by omega) (ev_bindc (within_some _ _ _) (ev_eq ?_ (ev_ret _)))
    rw [List.drop_eq_nil_of_le (by omega)]
    rfl
  | succ n ih =>
    intro i hi hn
    refine ev_step ?_
    simp only [impl_kidsOk.l0]
    have hr := hA _ (rdOf_mem (d := 0) (l := ks) (i := i) hi (by omega))
    have hr0 : 0 ≤ rd ks i := hr.1
    have hr1 : rd ks i ≤ k - 1 := hr.2
    have hk1 : kidK a k (rd ks i) = (rdOf z71 a (rd ks i)).f0 := if_pos ⟨hr0, hr1⟩
    rw [drop_rd' hi (show i < ks.length by omega), List.all_cons, hk1]
    refine ev_pos (by omega) (ev_pos hi (ev_pos (by omega) (ev_bindc (isStatement_some a b c _ ha hr0 (by omega)) (ev_ite (fun c2 => ?_) (fun c2 => ?_)))))
    · rw [c2, Bool.true_and, w64 (x := i + 1) (by omega) (by omega)]
      exact ih (i + 1) (by omega) (by omega)
    · rw [Bool.not_eq_true] at c2
      rw [c2]
      exact ev_ret _
theorem len1 {ks : List Int} (h : (ks.length : Int) = 1) : ∃ x, ks = [x] := by
  match ks, h with
  | [x], _ => exact ⟨x, rfl⟩
  | x :: y :: l, h => simp at h; omega
theorem len2 {ks : List Int} (h : (ks.length : Int) = 2) : ∃ x y, ks = [x, y] := by
  match ks, h with
  | [x, y], _ => exact ⟨x, y, rfl⟩
  | [x], h => simp at h
  | x :: y :: z :: l, h => simp at h; omega
theorem len3 {ks : List Int} (h : (ks.length : Int) = 3) : ∃ x y z, ks = [x, y, z] := by
  match ks, h with
  | [x, y, z], _ => exact ⟨x, y, z, rfl⟩
  | [x, y], h => simp at h
  | [x], h => simp at h
  | x :: y :: z :: w :: l, h => simp at h; omega
theorem kidsOk_j0 (a : List S71) (b : List S111) (c : List S115) (k : Int) (t num : Int) (x15 : Bool) (s2 s3 s4 : ByteArray) (ks : List Int) (hk : k < a.length) (ha : a.length ≤ 1048576) (hl : ks.length ≤ 1048576) (hA : ahead k ks)
    (hx : x15 = decide (t = 4 ∨ t = 5 ∨ t = 11 ∨ t = 14 ∨ t = 15)) (h3 : ¬ t = 3) (hK : kindP t = true) :
    Ev (fun j => impl_kidsOk.j0 j 0 0 t x15 a b c t num s2 s3 s4 ks) (shapeP a k t ks) := by
  have J := fun (v w : Int) hv hw => kidsOk_j2 a b c k v w t num s2 s3 s4 ks hk ha hl hA hv hw
  refine ev_step ?_
  simp only [impl_kidsOk.j0]
  unfold shapeP
  refine ev_ite (fun c1 => ?_) (fun c1 => ?_)
  · have ht := of_decide_eq_true (hx ▸ c1)
    rw [if_neg (by omega), if_neg h3, if_pos ht]
    refine ev_eq ?_ (J 1 0 (by omega) (by omega))
    by_cases e : (ks.length : Int) = 1
    · obtain ⟨x, rfl⟩ := len1 e
      simp [okFrom]
    · rw [decide_eq_false (by omega), decide_eq_false e]
      rfl
  · have ht : ¬ (t = 4 ∨ t = 5 ∨ t = 11 ∨ t = 14 ∨ t = 15) := fun h => c1 (hx.trans (decide_eq_true h))
    refine ev_ite (fun c2 => ?_) (fun c2 => ?_)
    · rw [if_neg (by omega), if_neg h3, if_neg ht, if_pos c2, w64 (x := (ks.length : Int) - 1) (by omega) (by omega)]
      refine ev_bindc (within_some _ _ _) (ev_ite (fun c3 => ?_) (fun c3 => ?_))
      · have c4 := of_decide_eq_true c3
        refine ev_eq ?_ (J 1 ((ks.length : Int) - 1) (by omega) (by omega))
        rw [decide_eq_true (show (ks.length : Int) = 1 + ((ks.length : Int) - 1) by omega)]
        by_cases e : (ks.length : Int) = 2
        · obtain ⟨x, y, rfl⟩ := len2 e
          simp [okFrom]
        · obtain ⟨x, y, z, rfl⟩ := len3 (show (ks.length : Int) = 3 by omega)
          simp [okFrom]
      · have c4 : ¬ (1 ≤ (ks.length : Int) - 1 ∧ (ks.length : Int) - 1 ≤ 2) := fun h => c3 (decide_eq_true h)
        rw [decide_eq_false (by omega)]
        exact ev_ret _
    · refine ev_ite (fun c3 => ?_) (fun c3 => ?_)
      · rw [if_neg (by omega), if_neg h3, if_neg ht, if_neg c2, if_pos c3]
        refine ev_eq ?_ (J 1 1 (by omega) (by omega))
        by_cases e : (ks.length : Int) = 2
        · obtain ⟨x, y, rfl⟩ := len2 e
          simp [okFrom]
        · rw [decide_eq_false (by omega), decide_eq_false e]
          rfl
      · refine ev_ite (fun c4 => ?_) (fun c4 => ?_)
        · rw [if_neg (by omega), if_neg h3, if_neg ht, if_neg c2, if_neg c3]
          exact kidsOk_l0 a b c k _ t num s2 s3 s4 ks hk ha hl rfl hA ks.length 0 (by omega) (by omega)
        · have hz : t = 1 ∨ t = 2 ∨ t = 16 ∨ t = 17 ∨ t = 18 ∨ t = 19 := by
            unfold kindP isV isSt isB at hK
            simp only [Bool.or_eq_true, decide_eq_true_iff] at hK
            omega
          rw [if_pos hz]
          refine ev_eq ?_ (J 0 0 (by omega) (by omega))
          by_cases e : (ks.length : Int) = 0
          · obtain rfl : ks = [] := List.eq_nil_of_length_eq_zero (by omega)
            simp [okFrom]
          · rw [decide_eq_false (by omega), decide_eq_false e]
            rfl
theorem kidsOk_ev (a : List S71) (b : List S111) (c : List S115) (k : Int) (t num : Int) (s2 s3 s4 : ByteArray) (ks : List Int) (hk : k < a.length) (ha : a.length ≤ 1048576) (hl : ks.length ≤ 1048576) (hA : ahead k ks) (hK : kindP t = true) :
    Ev (fun j => impl_kidsOk.f j a b c t num s2 s3 s4 ks) (shapeP a k t ks) := by
  unfold impl_kidsOk.f
  refine ev_ite (fun c1 => ?_) (fun c1 => ?_)
  · unfold shapeP
    rw [if_neg (by omega), if_pos c1]
    refine ev_eq ?_ (kidsOk_j2 a b c k 2 0 t num s2 s3 s4 ks hk ha hl hA (by omega) (by omega))
    by_cases e : (ks.length : Int) = 2
    · obtain ⟨x, y, rfl⟩ := len2 e
      simp [okFrom]
    · rw [decide_eq_false (by omega), decide_eq_false e]
      rfl
  · have J := fun (x : Bool) hx => kidsOk_j0 a b c k t num x s2 s3 s4 ks hk ha hl hA hx c1 hK
    refine ev_ite (fun c3 => J _ (by subst c3; rfl)) (fun c3 => ev_ite (fun c4 => J _ (by subst c4; rfl)) (fun c4 => ev_ite (fun c5 => J _ (by subst c5; rfl)) (fun c5 => ev_ite (fun c6 => J _ (by subst c6; rfl)) (fun c6 => J _ ?_))))
    rw [Bool.eq_iff_iff, beq_iff_eq, decide_eq_true_iff]
    omega
theorem ev_and {g : Nat → Option Bool} {x p r : Bool} (h : x = p) (k : p = true → Ev g r) : Ev (fun n => if x = true then g n else some false) (p && r) := by
  subst h
  cases x with
  | true => exact k rfl
  | false => exact ev_ret _
theorem ev_andP {g : Nat → Option Bool} {c : Prop} [Decidable c] {r : Bool} (k : c → Ev g r) : Ev (fun n => if c then g n else some false) (decide c && r) := by
  by_cases h : c
  · rw [decide_eq_true h]
    exact ev_pos h (k h)
  · rw [decide_eq_false h]
    exact ev_neg h (ev_ret _)
theorem emp_beq (s : ByteArray) : (s.toList == ([] : List UInt8)) = emp s := by
  unfold emp
  rw [Bool.eq_iff_iff, beq_iff_eq, decide_eq_true_iff]
theorem impl_namesOk_j0 (t num : Int) (x15 : Bool) (s2 s3 s4 : ByteArray) (ks : List Int) (h2 : s2.size ≤ 1048576) (h3 : s3.size ≤ 1048576) (h4 : s4.size ≤ 1048576)
    (hx : x15 = decide (t = 2 ∨ t = 11 ∨ t = 16 ∨ t = 17 ∨ t = 18)) :
    Ev (fun j => impl_namesOk.j0 j false false (emp s4) (num == 0) t x15 t num s2 s3 s4 ks) (namesP t num s2 s3 s4) := by
  have N2 := impl_NameOk_ev s2 (by omega)
  have N3 := impl_NameOk_ev s3 (by omega)
  have N4 := impl_NameOk_ev s4 (by omega)
  have hz : (num == 0) = decide (num = 0) := by rw [Bool.eq_iff_iff, beq_iff_eq, decide_eq_true_iff]
  refine ev_step ?_
  simp only [impl_namesOk.j0]
  rw [emp_beq, hz]
  have last : Ev (fun n => if s2.toList = ([] : List UInt8) then (if false = true then (impl_NameOk.f n s3).bind fun t => if t = true then some true else some false else some (emp s3)) else some false) (emp s2 && emp s3) := ev_andP (fun _ => ev_neg (by simp) (ev_ret _))
  unfold namesP
  refine ev_ite (fun c1 => ?_) (fun c1 => ?_)
  · have ht := of_decide_eq_true (hx ▸ c1)
    rw [if_pos (by omega), if_neg (by omega), if_neg (by omega), if_neg (by omega)]
    refine ev_eq ?_ (ev_and rfl (fun _ => ev_and rfl (fun _ => Ev.bind N2 (ev_and rfl (fun _ => ev_neg (by simp) (ev_ret _))))))
    generalize nameP s2 = A; generalize emp s3 = B; generalize emp s4 = C; generalize decide (num = 0) = D
    cases A <;> cases B <;> cases C <;> cases D <;> rfl
  · have ht : ¬ (t = 2 ∨ t = 11 ∨ t = 16 ∨ t = 17 ∨ t = 18) := fun h => c1 (hx.trans (decide_eq_true h))
    refine ev_ite (fun c2 => ?_) (fun c2 => ?_)
    · rw [if_pos (by omega), if_pos c2, if_neg (by omega), if_neg (by omega)]
      refine ev_ite (fun c3 => ?_) (fun c3 => ?_)
      · refine ev_eq ?_ (ev_and rfl (fun _ => Ev.bind N2 (ev_and rfl (fun _ => Ev.bind N3 (ev_and (r := true) rfl (fun _ => ev_ret _))))))
        rw [c3]
        generalize nameP s2 = A; generalize nameP s3 = B; generalize nameP s4 = C; generalize decide (num = 0) = D
        cases A <;> cases B <;> cases C <;> cases D <;> rfl
      · refine Ev.bind N4 (ev_eq ?_ (ev_and rfl (fun _ => ev_and rfl (fun _ => Ev.bind N2 (ev_and rfl (fun _ => Ev.bind N3 (ev_and (r := true) rfl (fun _ => ev_ret _))))))))
        rw [show emp s4 = false by simpa using c3]
        generalize nameP s2 = A; generalize nameP s3 = B; generalize nameP s4 = C; generalize decide (num = 0) = D
        cases A <;> cases B <;> cases C <;> cases D <;> rfl
    · rw [if_neg (by omega), if_neg c2]
      refine ev_ite (fun c3 => ?_) (fun c3 => ?_)
      · rw [if_pos c3]
        refine ev_bindc (within_some _ _ _) (ev_eq ?_ (ev_and rfl (fun _ => ev_and rfl (fun _ => ev_neg (by simp) last))))
        generalize emp s2 = A; generalize emp s3 = B; generalize emp s4 = C; generalize decide (0 ≤ num ∧ num ≤ 1000000) = D
        cases A <;> cases B <;> cases C <;> cases D <;> rfl
      · rw [if_neg c3]
        refine ev_ite (fun c4 => ?_) (fun c4 => ?_)
        · rw [if_pos c4]
          refine ev_bindc (within_some _ _ _) (ev_eq ?_ (ev_and rfl (fun _ => ev_and rfl (fun _ => ev_neg (by simp) last))))
          generalize emp s2 = A; generalize emp s3 = B; generalize emp s4 = C; generalize decide (1 ≤ num ∧ num ≤ 9) = D
          cases A <;> cases B <;> cases C <;> cases D <;> rfl
        · rw [if_neg c4]
          refine ev_eq ?_ (ev_and rfl (fun _ => ev_and rfl (fun _ => ev_neg (by simp) last)))
          generalize emp s2 = A; generalize emp s3 = B; generalize emp s4 = C; generalize decide (num = 0) = D
          cases A <;> cases B <;> cases C <;> cases D <;> rfl
theorem impl_namesOk_ev (t num : Int) (s2 s3 s4 : ByteArray) (ks : List Int) (h2 : s2.size ≤ 1048576) (h3 : s3.size ≤ 1048576) (h4 : s4.size ≤ 1048576) :
    Ev (fun j => impl_namesOk.f j t num s2 s3 s4 ks) (namesP t num s2 s3 s4) := by
  have J := fun (x : Bool) hx => impl_namesOk_j0 t num x s2 s3 s4 ks h2 h3 h4 hx
  unfold impl_namesOk.f
  rw [emp_beq]
  refine ev_ite (fun c3 => J _ (by subst c3; rfl)) (fun c3 => ev_ite (fun c4 => J _ (by subst c4; rfl)) (fun c4 => ev_ite (fun c5 => J _ (by subst c5; rfl)) (fun c5 => ev_ite (fun c6 => J _ (by subst c6; rfl)) (fun c6 => J _ ?_))))
  rw [Bool.eq_iff_iff, beq_iff_eq, decide_eq_true_iff]
  omega
/-- The first place of a number in a list, counted from j on; -1 without it. -/
def idxI (s : Int) : List Int → Int → Int
  | [], _ => -1
  | y :: l, j => if y = s then j else idxI s l (j + 1)
theorem idxI_mem (s : Int) : ∀ (l : List Int) (j : Int), 0 ≤ j → (idxI s l j ≥ 0 ↔ s ∈ l)
  | [], j, _ => by simp [idxI]
  | y :: l, j, h => by
    unfold idxI
    by_cases c : y = s
    · rw [if_pos c]
      simp [c, h]
    · rw [if_neg c, idxI_mem s l (j + 1) (by omega)]
      have c' : ¬ s = y := fun h => c h.symm
      simp [c']
theorem slices_IndexI_l0 (l : List Int) (s : Int) (hl : l.length ≤ 140737488351232) (n : Nat) : ∀ (i : Int), 0 ≤ i → (l.length : Int) - i = n → Ev (fun k => slices_Index_int_int.l0 k l s (l.length : Int) i) (idxI s (l.drop i.toNat) i) := by
  induction n with
  | zero =>
    intro i h0 hi
    refine ev_step ?_
    simp only [slices_Index_int_int.l0]
    rw [drop_end h0 (by omega)]
    exact ev_neg (by omega) (ev_ret _)
  | succ n ih =>
    intro i h0 hi
    refine ev_step ?_
    simp only [slices_Index_int_int.l0]
    refine ev_pos (by omega) (ev_pos h0 (ev_pos (by omega) ?_))
    rw [drop_rd' h0 (by omega)]
    unfold idxI
    by_cases c : s = rd l i
    · refine ev_pos c (ev_eq ?_ (ev_ret _))
      rw [if_pos c.symm]
    · refine ev_neg c ?_
      rw [w64 (x := i + 1) (by omega) (by omega), if_neg (fun h => c h.symm)]
      exact ih (i + 1) (by omega) (by omega)
theorem slices_ContainsI_ev (l : List Int) (s : Int) (hl : l.length ≤ 140737488351232) : Ev (fun k => slices_Contains_int_int.f k l s) (decide (s ∈ l)) := by
  unfold slices_Contains_int_int.f slices_Index_int_int.f
  refine Ev.bind (slices_IndexI_l0 l s hl l.length 0 (by omega) (by omega)) (ev_eq ?_ (ev_ret _))
  rw [decide_eq_decide]
  exact idxI_mem s l 0 (by omega)
/-- Where a kid does not lie ahead, no shape fits. -/
theorem shape_ahead (a : List S71) (k t : Int) (ks : List Int) (hK : kindP t = true) (h : shapeP a k t ks = true) : ahead k ks := by
  have good : ∀ x : Int, isV (kidK a k x) = true ∨ isB (kidK a k x) = true ∨ isSt (kidK a k x) = true → 0 ≤ x ∧ x ≤ k - 1 := by
    intro x hx
    by_cases c : 0 ≤ x ∧ x ≤ k - 1
    · exact c
    · rw [show kidK a k x = 0 from if_neg c] at hx
      simp [isV, isB, isSt] at hx
  unfold shapeP at h
  split at h
  · obtain rfl : ks = [] := List.eq_nil_of_length_eq_zero (by have := of_decide_eq_true h; omega)
    intro x hx
    cases hx
  · split at h
    · simp only [Bool.and_eq_true, decide_eq_true_iff] at h
      obtain ⟨x, y, rfl⟩ := len2 h.1
      simp at h
      intro z hz
      simp at hz
      rcases hz with rfl | rfl
      · exact good _ (.inl h.1)
      · exact good _ (.inl h.2)
    · split at h
      · simp only [Bool.and_eq_true, decide_eq_true_iff] at h
        obtain ⟨x, rfl⟩ := len1 h.1
        simp at h
        intro z hz
        simp at hz
        subst hz
        exact good _ (.inl h)
      · split at h
        · simp only [Bool.and_eq_true, decide_eq_true_iff] at h
          rcases h.1 with e | e
          · obtain ⟨x, y, rfl⟩ := len2 e
            simp at h
            intro z hz
            simp at hz
            rcases hz with rfl | rfl
            · exact good _ (.inl h.1)
            · exact good _ (.inr (.inl h.2))
          · obtain ⟨x, y, w, rfl⟩ := len3 e
            simp at h
            intro z hz
            simp at hz
            rcases hz with rfl | rfl | rfl
            · exact good _ (.inl h.1)
            · exact good _ (.inr (.inl h.2.1))
            · exact good _ (.inr (.inl h.2.2))
        · split at h
          · simp only [Bool.and_eq_true, decide_eq_true_iff] at h
            obtain ⟨x, y, rfl⟩ := len2 h.1
            simp at h
            intro z hz
            simp at hz
            rcases hz with rfl | rfl
            · exact good _ (.inl h.1)
            · exact good _ (.inr (.inl h.2))
          · simp only [Bool.and_eq_true, List.all_eq_true] at h
            intro z hz
            exact good _ (.inr (.inr (h.1 z hz)))
/-- What the program's loop over the kids tells: from a place on. -/
def kidsP (k : Int) : List Int → List Int → Bool
  | _, [] => true
  | pre, x :: xs => decide (0 ≤ x ∧ x ≤ k - 1) && (!decide (x ∈ pre) && kidsP k (pre ++ [x]) xs)
theorem kidsP_eq (k : Int) : ∀ (xs pre : List Int), kidsP k pre xs = (xs.all (fun x => decide (0 ≤ x ∧ x ≤ k - 1)) && nodupP pre xs)
  | [], pre => rfl
  | x :: xs, pre => by
    unfold kidsP nodupP
    rw [kidsP_eq k xs, List.all_cons]
    generalize decide (0 ≤ x ∧ x ≤ k - 1) = A; generalize decide (x ∈ pre) = B; generalize xs.all _ = C; generalize nodupP (pre ++ [x]) xs = D
    cases A <;> cases B <;> cases C <;> cases D <;> rfl
theorem impl_NodeOk_l0 (a : List S71) (b : List S111) (c : List S115) (k : Int) (h0 : 0 ≤ k) (h1 : k < a.length) (ha : fitN a) (t num : Int) (s2 s3 s4 : ByteArray) (ks : List Int) (hK : kindP t = true) (h2 : s2.size ≤ 1048576) (h3 : s3.size ≤ 1048576) (h4 : s4.size ≤ 1048576) (hl : ks.length ≤ 1048576) (m : Int) (hm : m = ks.length) (n : Nat) :
    ∀ i : Int, 0 ≤ i → (ks.length : Int) - i = n → ahead k (ks.take i.toNat) →
    Ev (fun j => impl_NodeOk.l0 j k ks m i a b c t num s2 s3 s4 ks) (kidsP k (ks.take i.toNat) (ks.drop i.toNat) && (shapeP a k t ks && namesP t num s2 s3 s4)) := by
  have hl0 := ha.1
  induction n with
  | zero =>
    intro i hi hn hA
    refine ev_step ?_
    simp only [impl_NodeOk.l0]
    rw [List.drop_eq_nil_of_le (by omega)]
    rw [List.take_of_length_le (by omega)] at hA ⊢
    rw [show kidsP k ks [] = true from rfl, Bool.true_and]
    exact ev_neg (by omega) (Ev.bind (kidsOk_ev a b c k t num s2 s3 s4 ks h1 ha.1 hl hA hK) (ev_and rfl (fun _ => Ev.bind (impl_namesOk_ev t num s2 s3 s4 ks h2 h3 h4) (ev_ret _))))
  | succ n ih =>
    intro i hi hn hA
    refine ev_step ?_
    simp only [impl_NodeOk.l0]
    rw [drop_rd' hi (show i < ks.length by omega)]
    unfold kidsP
    rw [Bool.and_assoc]
    refine ev_pos (by omega) (ev_pos hi (ev_pos (by omega) ?_))
    rw [w64 (x := k - 1) (by omega) (by omega)]
    refine ev_bindc (within_some _ _ _) (ev_and rfl (fun c1 => ?_))
    have c2 := of_decide_eq_true c1
    rw [Bool.and_assoc]
    refine ev_pos (by omega) (Ev.bind (slices_ContainsI_ev (ks.take i.toNat) (rd ks i) (by rw [List.length_take]; omega)) ?_)
    refine ev_ite (fun c3 => ?_) (fun c3 => ?_)
    · rw [c3]
      exact ev_ret _
    · rw [show decide (rd ks i ∈ ks.take i.toNat) = false by simpa using c3, Bool.not_false, Bool.true_and, w64 (x := i + 1) (by omega) (by omega)]
      have ht := take_rd 0 hi (show i < ks.length by omega)
      have next := ih (i + 1) (by omega) (by omega) (by
        rw [ht]
        intro x hx
        rcases List.mem_append.1 hx with hx | hx
        · exact hA x hx
        · rw [List.mem_singleton.1 hx]
          exact c2)
      rw [ht] at next
      exact next
theorem impl_NodeOk_ev (a : List S71) (b : List S111) (c : List S115) (k : Int) (ha : fitN a) : Ev (fun j => impl_NodeOk.f j a b c k) (nodeP a k) := by
  unfold impl_NodeOk.f nodeP
  refine ev_bindc (isNode_some a b c k ha.1) ?_
  refine ev_ite (fun c1 => ?_) (fun c1 => ?_)
  · have c2 := of_decide_eq_true c1
    rw [if_pos c2]
    obtain ⟨g2, g3, g4, hl⟩ := ha.2 _ (rdOf_mem c2.1 c2.2)
    have L := fun hK => impl_NodeOk_l0 a b c k c2.1 c2.2 ha (rdOf z71 a k).f0 (rdOf z71 a k).f1 (rdOf z71 a k).f2 (rdOf z71 a k).f3 (rdOf z71 a k).f4 (rdOf z71 a k).f5 hK g2 g3 g4 hl _ rfl (rdOf z71 a k).f5.length 0 (by omega) (by omega) (fun x hx => by simp at hx)
    have fin : ∀ hK : kindP (rdOf z71 a k).f0 = true, Ev (fun j => impl_NodeOk.l0 j k (rdOf z71 a k).f5 ((rdOf z71 a k).f5.length : Int) 0 a b c (rdOf z71 a k).f0 (rdOf z71 a k).f1 (rdOf z71 a k).f2 (rdOf z71 a k).f3 (rdOf z71 a k).f4 (rdOf z71 a k).f5)
        (nodupP [] (rdOf z71 a k).f5 && ((kindP (rdOf z71 a k).f0 && shapeP a k (rdOf z71 a k).f0 (rdOf z71 a k).f5) && namesP (rdOf z71 a k).f0 (rdOf z71 a k).f1 (rdOf z71 a k).f2 (rdOf z71 a k).f3 (rdOf z71 a k).f4)) := by
      intro hK
      refine ev_eq ?_ (L hK)
      rw [Int.toNat_zero, List.take_zero, List.drop_zero, kidsP_eq, hK, Bool.true_and]
      cases hs : shapeP a k (rdOf z71 a k).f0 (rdOf z71 a k).f5 with
      | false => simp
      | true =>
        have hA := shape_ahead a k _ _ hK hs
        rw [show (rdOf z71 a k).f5.all (fun x => decide (0 ≤ x ∧ x ≤ k - 1)) = true from List.all_eq_true.2 (fun x hx => decide_eq_true (hA x hx)), Bool.true_and]
    refine ev_pos c2.1 (ev_pos c2.2 (ev_bindc (within_some _ _ _) ?_))
    have J : ∀ x : Bool, x = !kindP (rdOf z71 a k).f0 → Ev (fun j => impl_NodeOk.j0 j k x a b c (rdOf z71 a k).f0 (rdOf z71 a k).f1 (rdOf z71 a k).f2 (rdOf z71 a k).f3 (rdOf z71 a k).f4 (rdOf z71 a k).f5)
        (nodupP [] (rdOf z71 a k).f5 && ((kindP (rdOf z71 a k).f0 && shapeP a k (rdOf z71 a k).f0 (rdOf z71 a k).f5) && namesP (rdOf z71 a k).f0 (rdOf z71 a k).f1 (rdOf z71 a k).f2 (rdOf z71 a k).f3 (rdOf z71 a k).f4)) := by
      intro x hx
      refine ev_step ?_
      simp only [impl_NodeOk.j0]
      refine ev_ite (fun c3 => ?_) (fun c3 => ?_)
      · refine ev_eq ?_ (ev_ret _)
        rw [show kindP (rdOf z71 a k).f0 = false by rw [c3] at hx; simpa using hx.symm]
        simp
      · exact fin (by
          have : x = false := by simpa using c3
          rw [this] at hx
          simpa using hx.symm)
    refine ev_ite (fun c3 => ?_) (fun c3 => ?_)
    · refine J false ?_
      have c4 : isV (rdOf z71 a k).f0 = true := c3
      unfold kindP
      rw [c4]
      rfl
    · refine ev_bindc (within_some _ _ _) (J _ ?_)
      have c5 : ¬ (1 ≤ (rdOf z71 a k).f0 ∧ (rdOf z71 a k).f0 ≤ 5) := fun h => c3 (decide_eq_true h)
      congr 1
      unfold kindP isV isSt isB
      show decide (11 ≤ (rdOf z71 a k).f0 ∧ (rdOf z71 a k).f0 ≤ 20) = _
      rw [Bool.eq_iff_iff]
      simp only [Bool.or_eq_true, decide_eq_true_iff]
      omega
  · rw [if_neg (fun h => c1 (decide_eq_true h))]
    exact ev_ret _

/-- The greatest of m and one more than what the list holds at each of some places. -/
def mxK (l : List Int) : List Int → Int → Int
  | [], m => m
  | x :: xs, m => mxK l xs (mx m (rd l x + 1))
theorem mx_le {a b c : Int} (h1 : a ≤ c) (h2 : b ≤ c) : mx a b ≤ c := by
  unfold mx
  split <;> omega
theorem le_mx (a b : Int) : a ≤ mx a b := by
  unfold mx
  split <;> omega
theorem rd_bound {l : List Int} {c : Int} (h0 : 0 ≤ c) (h : ∀ x ∈ l, 0 ≤ x ∧ x ≤ c) (i : Int) : 0 ≤ rd l i ∧ rd l i ≤ c := by
  unfold rd
  by_cases hi : i.toNat < l.length
  · rw [List.getD_eq_getElem?_getD, List.getElem?_eq_getElem hi]
    exact h _ (List.getElem_mem _)
  · rw [List.getD_eq_getElem?_getD, List.getElem?_eq_none (by omega)]
    exact ⟨Int.le_refl _, h0⟩
theorem mxK_bound {l : List Int} (h : ∀ x ∈ l, 0 ≤ x ∧ x ≤ 10) : ∀ (ks : List Int) (m : Int), m ≤ 11 → mxK l ks m ≤ 11 ∧ m ≤ mxK l ks m
  | [], m, hm => ⟨hm, Int.le_refl _⟩
  | x :: xs, m, hm => by
    have hb := rd_bound (by omega) h x
    obtain ⟨h1, h2⟩ := mxK_bound h xs (mx m (rd l x + 1)) (mx_le hm (by omega))
    have h3 := le_mx m (rd l x + 1)
    exact ⟨h1, Int.le_trans h3 h2⟩
def finK (l : List Int) (n m : Int) : Int := if m > 10 then 0 else if n > 0 ∧ rd l (n - 1) = 0 then 0 else m
def dval (a : List S71) (l : List Int) (n : Int) : Int := if nodeP a n = true then finK l n (mxK l (rdOf z71 a n).f5 1) else 0
/-- How deep the first nodes are. -/
def deepL (a : List S71) : Nat → List Int
  | 0 => []
  | n + 1 => deepL a n ++ [dval a (deepL a n) n]
def deepP (a : List S71) (k : Int) : Int := if 0 ≤ k ∧ k < a.length then dval a (deepL a k.toNat) k else 0
theorem deepL_length (a : List S71) : ∀ n, (deepL a n).length = n
  | 0 => rfl
  | n + 1 => by simp [deepL, deepL_length a n]
theorem dval_bound (a : List S71) (l : List Int) (n : Int) (h : ∀ x ∈ l, 0 ≤ x ∧ x ≤ 10) : 0 ≤ dval a l n ∧ dval a l n ≤ 10 := by
  unfold dval finK
  have := mxK_bound h (rdOf z71 a n).f5 1 (by omega)
  split
  · split
    · omega
    · split <;> omega
  · omega
theorem deepL_bound (a : List S71) : ∀ n, ∀ x ∈ deepL a n, 0 ≤ x ∧ x ≤ 10
  | 0 => fun x hx => by cases hx
  | n + 1 => fun x hx => by
    rcases List.mem_append.1 hx with hx | hx
    · exact deepL_bound a n x hx
    · rw [List.mem_singleton.1 hx]
      exact dval_bound a _ _ (deepL_bound a n)
theorem rd_left {l r : List Int} {i : Int} (h : i.toNat < l.length) : rd (l ++ r) i = rd l i := by
  unfold rd
  rw [List.getD_eq_getElem?_getD, List.getD_eq_getElem?_getD, List.getElem?_append_left h]
theorem rd_at {l r : List Int} {x : Int} {i : Int} (h : i.toNat = l.length) : rd (l ++ x :: r) i = x := by
  unfold rd
  rw [List.getD_eq_getElem?_getD, List.getElem?_append_right (by omega), show i.toNat - l.length = 0 by omega]
  rfl
theorem deepL_rd (a : List S71) (k : Nat) : ∀ n, k < n → rd (deepL a n) k = dval a (deepL a k) k
  | 0, h => by omega
  | n + 1, h => by
    have hl := deepL_length a n
    show rd (deepL a n ++ [dval a (deepL a n) n]) k = dval a (deepL a k) k
    by_cases c : k < n
    · rw [rd_left (by omega)]
      exact deepL_rd a k n c
    · obtain rfl : k = n := by omega
      exact rd_at (show ((k : Nat) : Int).toNat = (deepL a k).length by omega)
/-- Behind a node that is not right none is. -/
theorem dval_dead (a : List S71) (i : Nat) (h : dval a (deepL a i) i = 0) : ∀ n, i ≤ n → dval a (deepL a n) n = 0
  | 0, hn => by
    obtain rfl : i = 0 := by omega
    exact h
  | n + 1, hn => by
    by_cases c : i = n + 1
    · subst c
      exact h
    · have ih := dval_dead a i h n (by omega)
      have hr : rd (deepL a (n + 1)) ((n + 1 : Nat) : Int) = rd (deepL a (n + 1)) ((n + 1 : Nat) : Int) := rfl
      have h1 : rd (deepL a (n + 1)) (((n + 1 : Nat) : Int) - 1) = 0 := by
        rw [show ((n + 1 : Nat) : Int) - 1 = (n : Int) by omega, deepL_rd a n (n + 1) (by omega)]
        exact ih
      unfold dval
      split
      · unfold finK
        split
        · rfl
        · rw [if_pos ⟨by omega, h1⟩]
      · rfl
theorem spec_deeps_fin (a : List S71) (b : List S111) (c : List S115) (out : List Int) (n m : Int) (r : List Int) (hl : (out.length : Int) = n) (hb : n ≤ 1048576)
    (hnext : Ev (fun k => spec_l05Deeps.l0 k (out ++ [finK out n m]) (n + 1) a b c) r) (hm : 1 ≤ m ∧ m ≤ 11) :
    Ev (fun k => if m > 10 then (if out.length < 17592186044416 then (spec_l05Deeps.l0 k (out ++ [0]) (wrap64 (n + 1)) a b c) else (none)) else (if n > 0 then (if 0 ≤ (wrap64 (n - 1)) then (if (wrap64 (n - 1)) < (out.length : Int) then (if (rd out (wrap64 (n - 1))) = 0 then (if out.length < 17592186044416 then (spec_l05Deeps.l0 k (out ++ [0]) (wrap64 (n + 1)) a b c) else (none)) else (if out.length < 17592186044416 then (spec_l05Deeps.l0 k (out ++ [m]) (wrap64 (n + 1)) a b c) else (none))) else (none)) else (none)) else (if out.length < 17592186044416 then (spec_l05Deeps.l0 k (out ++ [m]) (wrap64 (n + 1)) a b c) else (none)))) r := by
  rw [w64 (x := n + 1) (by omega) (by omega)]
  unfold finK at hnext
  refine ev_ite (fun c1 => ?_) (fun c1 => ?_)
  · rw [if_pos c1] at hnext
    exact ev_pos (by omega) hnext
  · rw [if_neg c1] at hnext
    refine ev_ite (fun c2 => ?_) (fun c2 => ?_)
    · rw [w64 (x := n - 1) (by omega) (by omega)]
      refine ev_pos (by omega) (ev_pos (by omega) (ev_ite (fun c3 => ?_) (fun c3 => ?_)))
      · rw [if_pos ⟨c2, c3⟩] at hnext
        exact ev_pos (by omega) hnext
      · rw [if_neg (fun h => c3 h.2)] at hnext
        exact ev_pos (by omega) hnext
    · rw [if_neg (fun h => c2 h.1)] at hnext
      exact ev_pos (by omega) hnext
theorem spec_deeps_l1 (a : List S71) (b : List S111) (c : List S115) (out : List Int) (n : Int) (r : List Int) (h0 : 0 ≤ n) (h1 : n < a.length) (ha : fitN a) (hl : (out.length : Int) = n) (ho : ∀ x ∈ out, 0 ≤ x ∧ x ≤ 10) (hA : ahead n (rdOf z71 a n).f5)
    (hnext : Ev (fun k => spec_l05Deeps.l0 k (out ++ [finK out n (mxK out (rdOf z71 a n).f5 1)]) (n + 1) a b c) r) (d : Nat) : ∀ (i m : Int), 0 ≤ i → ((rdOf z71 a n).f5.length : Int) - i = d → 1 ≤ m ∧ m ≤ 11 → mxK out ((rdOf z71 a n).f5.drop i.toNat) m = mxK out (rdOf z71 a n).f5 1 →
    Ev (fun k => spec_l05Deeps.l1 k out n m i a b c) r := by
  have hks : (rdOf z71 a n).f5.length ≤ 1048576 := (ha.2 _ (rdOf_mem h0 h1)).2.2.2
  have hna := ha.1
  have E : ∀ i, rd_T71 a i = rdOf z71 a i := fun _ => rfl
  induction d with
  | zero =>
    intro i m hi hd hm he
    refine ev_step ?_
    simp only [spec_l05Deeps.l1, E]
    rw [List.drop_eq_nil_of_le (by omega)] at he
    have he : m = mxK out (rdOf z71 a n).f5 1 := he
    rw [← he] at hnext
    exact ev_pos h0 (ev_pos h1 (ev_neg (by omega) (spec_deeps_fin a b c out n m r hl (by omega) hnext hm)))
  | succ d ih =>
    intro i m hi hd hm he
    refine ev_step ?_
    simp only [spec_l05Deeps.l1, E]
    have hr := hA _ (rdOf_mem (d := 0) (l := (rdOf z71 a n).f5) (i := i) hi (by omega))
    have hr0 : 0 ≤ rd (rdOf z71 a n).f5 i := hr.1
    have hr1 : rd (rdOf z71 a n).f5 i ≤ n - 1 := hr.2
    have hb := rd_bound (by omega) ho (rd (rdOf z71 a n).f5 i)
    rw [drop_rd' hi (by omega)] at he
    have he : mxK out ((rdOf z71 a n).f5.drop (i + 1).toNat) (mx m (rd out (rd (rdOf z71 a n).f5 i) + 1)) = mxK out (rdOf z71 a n).f5 1 := he
    refine ev_pos h0 (ev_pos h1 (ev_pos (by omega) (ev_pos hi (ev_pos hr0 (ev_pos (by omega) ?_)))))
    rw [w64 (x := rd out (rd (rdOf z71 a n).f5 i) + 1) (by omega) (by omega), w64 (x := i + 1) (by omega) (by omega)]
    refine ev_ite (fun c1 => ?_) (fun c1 => ?_)
    · rw [show mx m (rd out (rd (rdOf z71 a n).f5 i) + 1) = rd out (rd (rdOf z71 a n).f5 i) + 1 from if_pos c1] at he
      exact ih (i + 1) _ (by omega) (by omega) (by omega) he
    · rw [show mx m (rd out (rd (rdOf z71 a n).f5 i) + 1) = m from if_neg c1] at he
      exact ih (i + 1) _ (by omega) (by omega) hm he
theorem node_ahead (a : List S71) (n : Int) (h : nodeP a n = true) : (0 ≤ n ∧ n < a.length) ∧ ahead n (rdOf z71 a n).f5 := by
  unfold nodeP at h
  split at h
  · rename_i hr
    simp only [Bool.and_eq_true] at h
    exact ⟨hr, shape_ahead a n _ _ h.2.1.1 h.2.1.2⟩
  · cases h
theorem spec_deeps_l0 (a : List S71) (b : List S111) (c : List S115) (ha : fitN a) (d : Nat) : ∀ n : Nat, (a.length : Int) - n = d → Ev (fun k => spec_l05Deeps.l0 k (deepL a n) n a b c) (deepL a a.length) := by
  have hna := ha.1
  induction d with
  | zero =>
    intro n hd
    refine ev_step ?_
    simp only [spec_l05Deeps.l0]
    obtain rfl : n = a.length := by omega
    exact ev_neg (by omega) (ev_ret _)
  | succ d ih =>
    intro n hd
    have hl := deepL_length a n
    have next := ih (n + 1) (by omega)
    have next : Ev (fun k => spec_l05Deeps.l0 k (deepL a n ++ [dval a (deepL a n) n]) ((n : Int) + 1) a b c) (deepL a a.length) := next
    refine ev_step ?_
    simp only [spec_l05Deeps.l0]
    refine ev_pos (by omega) (Ev.bind (spec_NodeOk_ev a b c n ha) (ev_ite (fun c1 => ?_) (fun c1 => ?_)))
    · obtain ⟨hr, hA⟩ := node_ahead a n c1
      unfold dval at next
      rw [if_pos c1] at next
      exact spec_deeps_l1 a b c (deepL a n) n _ hr.1 hr.2 ha (by omega) (deepL_bound a n) hA next (rdOf z71 a n).f5.length 0 1 (by omega) (by omega) (by omega) rfl
    · unfold dval at next
      rw [if_neg c1] at next
      refine ev_neg (by decide) ?_
      rw [w64 (x := (n : Int) + 1) (by omega) (by omega)]
      refine ev_ite (fun c2 => ?_) (fun c2 => ev_pos (by omega) next)
      rw [w64 (x := (n : Int) - 1) (by omega) (by omega)]
      exact ev_pos (by omega) (ev_pos (by omega) (ev_ite (fun _ => ev_pos (by omega) next) (fun _ => ev_pos (by omega) next)))
theorem spec_deeps_ev (a : List S71) (b : List S111) (c : List S115) (ha : fitN a) : Ev (fun k => spec_l05Deeps.f k a b c) (deepL a a.length) := by
  unfold spec_l05Deeps.f
  exact spec_deeps_l0 a b c ha a.length 0 (by omega)
/-- What the program holds when it has told the first n of N. -/
def outP (a : List S71) (n N : Nat) : List Int := deepL a n ++ List.replicate (N - n) 0
theorem outP_length (a : List S71) (n N : Nat) (h : n ≤ N) : (outP a n N).length = N := by
  unfold outP
  rw [List.length_append, deepL_length, List.length_replicate]
  omega
theorem outP_rd (a : List S71) (n N : Nat) (x : Int) (h0 : 0 ≤ x) (h : x < n) : rd (outP a n N) x = rd (deepL a n) x := rd_left (by rw [deepL_length]; omega)
theorem outP_zero (a : List S71) (n N k : Nat) (h : n ≤ k) : rd (outP a n N) k = 0 := by
  unfold rd outP
  rw [List.getD_eq_getElem?_getD, List.getElem?_append_right (by rw [deepL_length]; omega), List.getElem?_replicate]
  split <;> rfl
theorem outP_bound (a : List S71) (n N : Nat) : ∀ x ∈ outP a n N, 0 ≤ x ∧ x ≤ 10 := by
  intro x hx
  rcases List.mem_append.1 hx with hx | hx
  · exact deepL_bound a n x hx
  · rw [(List.mem_replicate.1 hx).2]
    omega
theorem outP_set (a : List S71) (n N : Nat) (h : n < N) : (outP a n N).set n (dval a (deepL a n) n) = outP a (n + 1) N := by
  unfold outP
  have hl := deepL_length a n
  rw [List.set_append_right _ _ (by omega), hl, Nat.sub_self, show N - n = (N - (n + 1)) + 1 by omega, List.replicate_succ, List.set_cons_zero]
  show _ = (deepL a n ++ [dval a (deepL a n) n]) ++ _
  rw [List.append_assoc]
  rfl
theorem mxK_congr {l l' : List Int} : ∀ (ks : List Int) (m : Int), (∀ x ∈ ks, rd l x = rd l' x) → mxK l ks m = mxK l' ks m
  | [], _, _ => rfl
  | x :: xs, m, h => by
    unfold mxK
    rw [h x (List.mem_cons_self ..)]
    exact mxK_congr xs _ (fun y hy => h y (List.mem_cons_of_mem _ hy))
/-- A node that is not right ends the loop. -/
theorem impl_deeps_bad (a : List S71) (b : List S111) (c : List S115) (out ks : List Int) (n q m : Int) (t : Int) (hq : q = ks.length) (hks : ks.length ≤ 1048576) (h0 : 0 ≤ n) (hn : n ≤ 1048576) (hl : n < out.length) (ho : ∀ x ∈ out, 0 ≤ x ∧ x ≤ 10) (d : Nat) :
    ∀ (i v : Int), 0 ≤ i → (ks.length : Int) - i = d → 11 ≤ v → Ev (fun k => impl_deeps.l1 k out n v m t ks q i a b c) out := by
  induction d with
  | zero =>
    intro i v hi hd hv
    refine ev_step ?_
    simp only [impl_deeps.l1]
    exact ev_neg (by omega) (ev_pos (by omega) (ev_ret _))
  | succ d ih =>
    intro i v hi hd hv
    refine ev_step ?_
    simp only [impl_deeps.l1]
    have hb := rd_bound (by omega) ho (rd ks i)
    have hm := le_mx v (rd out (rd ks i) + 1)
    rw [w64 (x := n - 1) (by omega) (by omega)]
    refine ev_pos (by omega) (ev_pos hi (ev_pos (by omega) (ev_bindc (within_some _ _ _) (ev_ite (fun c1 => ?_) (fun c1 => ev_pos (by decide) (ev_ret _))))))
    have c2 := of_decide_eq_true c1
    refine ev_pos c2.1 (ev_pos (by omega) (ev_ite (fun c3 => ev_pos (by decide) (ev_ret _)) (fun c3 => ?_)))
    rw [w64 (x := rd out (rd ks i) + 1) (by omega) (by omega), w64 (x := i + 1) (by omega) (by omega)]
    exact ih (i + 1) _ (by omega) (by omega) (by omega)
theorem impl_deeps_good (a : List S71) (b : List S111) (c : List S115) (out ks : List Int) (n q m : Int) (r : List Int) (hq : q = ks.length) (hks : ks.length ≤ 1048576) (h0 : 0 ≤ n) (hn : n ≤ 1048576) (hl : n < out.length) (ho : ∀ x ∈ out, 0 ≤ x ∧ x ≤ 10) (hA : ahead n ks) (hpos : ∀ x, 0 ≤ x → x < n → rd out x ≠ 0)
    (hbad : mxK out ks 1 > 10 → r = out) (hnext : ¬ mxK out ks 1 > 10 → Ev (fun k => impl_deeps.l0 k (out.set n.toNat (mxK out ks 1)) m (n + 1) a b c) r) (d : Nat) :
    ∀ (i v : Int), 0 ≤ i → (ks.length : Int) - i = d → 1 ≤ v ∧ v ≤ 11 → mxK out (ks.drop i.toNat) v = mxK out ks 1 → Ev (fun k => impl_deeps.l1 k out n v m n ks q i a b c) r := by
  induction d with
  | zero =>
    intro i v hi hd hv he
    refine ev_step ?_
    simp only [impl_deeps.l1]
    rw [List.drop_eq_nil_of_le (by omega)] at he
    have he : v = mxK out ks 1 := he
    rw [← he] at hbad hnext
    refine ev_neg (by omega) (ev_ite (fun c1 => ?_) (fun c1 => ?_))
    · rw [hbad c1]
      exact ev_ret _
    · rw [w64 (x := n + 1) (by omega) (by omega)]
      exact ev_pos h0 (ev_pos hl (hnext c1))
  | succ d ih =>
    intro i v hi hd hv he
    refine ev_step ?_
    simp only [impl_deeps.l1]
    have hr := hA _ (rdOf_mem (d := 0) (l := ks) (i := i) hi (by omega))
    have hr0 : 0 ≤ rd ks i := hr.1
    have hr1 : rd ks i ≤ n - 1 := hr.2
    have hb := rd_bound (by omega) ho (rd ks i)
    rw [drop_rd' hi (by omega)] at he
    have he : mxK out (ks.drop (i + 1).toNat) (mx v (rd out (rd ks i) + 1)) = mxK out ks 1 := he
    have h3 := le_mx v (rd out (rd ks i) + 1)
    have h4 : mx v (rd out (rd ks i) + 1) ≤ 11 := mx_le hv.2 (by omega)
    rw [w64 (x := n - 1) (by omega) (by omega)]
    refine ev_pos (by omega) (ev_pos hi (ev_pos (by omega) (ev_bindc (within_some _ _ _) (ev_pos (decide_eq_true ⟨hr0, hr1⟩) (ev_pos hr0 (ev_pos (by omega) (ev_neg (hpos _ hr0 (by omega)) ?_)))))))
    rw [w64 (x := rd out (rd ks i) + 1) (by omega) (by omega), w64 (x := i + 1) (by omega) (by omega)]
    exact ih (i + 1) _ (by omega) (by omega) (by omega) he
theorem impl_deeps_l0 (a : List S71) (b : List S111) (c : List S115) (ha : fitN a) (N : Nat) (hN : N < a.length) (d : Nat) : ∀ n : Nat, N + 1 - n = d → n ≤ N + 1 → (∀ j : Nat, j < n → dval a (deepL a j) j ≠ 0) →
    ∃ out, Ev (fun k => impl_deeps.l0 k (outP a n (N + 1)) ((N + 1 : Nat) : Int) n a b c) out ∧ out.length = N + 1 ∧ rd out N = dval a (deepL a N) N := by
  have hna := ha.1
  induction d with
  | zero =>
    intro n hd hn hpos
    obtain rfl : n = N + 1 := by omega
    refine ⟨outP a (N + 1) (N + 1), ev_step ?_, outP_length a _ _ (Nat.le_refl _), ?_⟩
    · simp only [impl_deeps.l0]
      exact ev_neg (by omega) (ev_ret _)
    · rw [outP_rd a _ _ _ (by omega) (by omega)]
      exact deepL_rd a N (N + 1) (by omega)
  | succ d ih =>
    intro n hd hn hpos
    have hlen := outP_length a n (N + 1) hn
    have hbd := outP_bound a n (N + 1)
    have hks := fun h0 h1 => (ha.2 _ (rdOf_mem (d := z71) (l := a) (i := (n : Int)) h0 h1)).2.2.2
    have E : ∀ i, rd_T71 a i = rdOf z71 a i := fun _ => rfl
    have stop : dval a (deepL a n) n = 0 → ((outP a n (N + 1)).length = N + 1 ∧ rd (outP a n (N + 1)) N = dval a (deepL a N) N) := fun h => ⟨hlen, by rw [outP_zero a n (N + 1) N (by omega), dval_dead a n h N (by omega)]⟩
    by_cases c1 : nodeP a n = true
    · obtain ⟨hr, hA⟩ := node_ahead a n c1
      have hcg : mxK (outP a n (N + 1)) (rdOf z71 a n).f5 1 = mxK (deepL a n) (rdOf z71 a n).f5 1 := mxK_congr _ _ (fun x hx => outP_rd a n _ x (hA x hx).1 (by have := (hA x hx).2; omega))
      have hp : ∀ x, 0 ≤ x → x < (n : Int) → rd (outP a n (N + 1)) x ≠ 0 := by
        intro x h0 h1
        rw [outP_rd a n _ x h0 h1]
        have := deepL_rd a x.toNat n (by omega)
        rw [show ((x.toNat : Nat) : Int) = x by omega] at this
        rw [this]
        have h2 := hpos x.toNat (by omega)
        rw [show ((x.toNat : Nat) : Int) = x by omega] at h2
        exact h2
      have hv : dval a (deepL a n) n = finK (deepL a n) n (mxK (deepL a n) (rdOf z71 a n).f5 1) := if_pos c1
      by_cases c2 : mxK (deepL a n) (rdOf z71 a n).f5 1 > 10
      · have hz : dval a (deepL a n) n = 0 := hv.trans (if_pos c2)
        refine ⟨outP a n (N + 1), ev_step ?_, stop hz⟩
        simp only [impl_deeps.l0]
        refine ev_pos (by omega) (Ev.bind (impl_NodeOk_ev a b c n ha) (ev_pos c1 (ev_step ?_)))
        simp only [impl_deeps.j1, E]
        refine ev_pos hr.1 (ev_pos hr.2 (impl_deeps_good a b c _ _ n _ _ _ rfl (hks hr.1 hr.2) hr.1 (by omega) (by omega) hbd hA hp (fun _ => rfl) (fun h => absurd (hcg ▸ c2) h) (rdOf z71 a n).f5.length 0 1 (by omega) (by omega) (by omega) rfl))
      · have hb1 := mxK_bound (deepL_bound a n) (rdOf z71 a n).f5 1 (by omega)
        have hne : dval a (deepL a n) n ≠ 0 := by
          rw [hv]
          unfold finK
          rw [if_neg c2, if_neg]
          · omega
          · rintro ⟨h1, h2⟩
            have h3 := hp ((n : Int) - 1) (by omega) (by omega)
            rw [outP_rd a n _ _ (by omega) (by omega)] at h3
            exact h3 h2
        have heq : dval a (deepL a n) n = mxK (deepL a n) (rdOf z71 a n).f5 1 := by
          rw [hv] at hne ⊢
          unfold finK at hne ⊢
          rw [if_neg c2] at hne ⊢
          split at hne
          · exact absurd rfl hne
          · rename_i h
            rw [if_neg h]
        obtain ⟨out, e, el, er⟩ := ih (n + 1) (by omega) (by omega) (fun j hj => by
          by_cases c3 : j = n
          · subst c3
            exact hne
          · exact hpos j (by omega))
        refine ⟨out, ev_step ?_, el, er⟩
        simp only [impl_deeps.l0]
        refine ev_pos (by omega) (Ev.bind (impl_NodeOk_ev a b c n ha) (ev_pos c1 (ev_step ?_)))
        simp only [impl_deeps.j1, E]
        refine ev_pos hr.1 (ev_pos hr.2 (impl_deeps_good a b c _ _ n _ _ _ rfl (hks hr.1 hr.2) hr.1 (by omega) (by omega) hbd hA hp (fun h => absurd (hcg ▸ h) c2) (fun _ => ?_) (rdOf z71 a n).f5.length 0 1 (by omega) (by omega) (by omega) rfl))
        rw [hcg, ← heq, show (n : Int).toNat = n from rfl, outP_set a n (N + 1) (by omega)]
        exact e
    · have hz : dval a (deepL a n) n = 0 := if_neg c1
      refine ⟨outP a n (N + 1), ev_step ?_, stop hz⟩
      simp only [impl_deeps.l0]
      refine ev_pos (by omega) (Ev.bind (impl_NodeOk_ev a b c n ha) (ev_neg c1 (ev_step ?_)))
      simp only [impl_deeps.j1, E]
      have h0 : (0 : Int) ≤ n := by omega
      have h1 : (n : Int) < a.length := by omega
      exact ev_pos h0 (ev_pos h1 (impl_deeps_bad a b c _ _ n _ _ _ rfl (hks h0 h1) h0 (by omega) (by omega) hbd (rdOf z71 a n).f5.length 0 11 (by omega) (by omega) (by omega)))
theorem impl_deeps_ev (a : List S71) (b : List S111) (c : List S115) (k : Int) (ha : fitN a) (h0 : 0 ≤ k) (h1 : k < a.length) : ∃ out, Ev (fun j => impl_deeps.f j a b c k) out ∧ (out.length : Int) = k + 1 ∧ rd out k = deepP a k := by
  have hna := ha.1
  obtain ⟨out, e, el, er⟩ := impl_deeps_l0 a b c ha k.toNat (by omega) (k.toNat + 1) 0 (by omega) (by omega) (fun j hj => by omega)
  refine ⟨out, ?_, by omega, ?_⟩
  · unfold impl_deeps.f
    rw [w64 (x := k + 1) (by omega) (by omega)]
    refine ev_pos (by omega) (ev_pos (by omega) (ev_bindc rfl ?_))
    rw [show (k + 1).toNat = k.toNat + 1 by omega, List.length_replicate]
    exact e
  · rw [show ((k.toNat : Nat) : Int) = k by omega] at er
    rw [er]
    exact (if_pos ⟨h0, h1⟩).symm
theorem impl_DeepOf_ev (a : List S71) (b : List S111) (c : List S115) (k : Int) (ha : fitN a) : Ev (fun j => impl_DeepOf.f j a b c k) (deepP a k) := by
  unfold impl_DeepOf.f
  refine ev_bindc (isNode_some a b c k ha.1) (ev_ite (fun c1 => ?_) (fun c1 => ?_))
  · have c2 := of_decide_eq_true c1
    obtain ⟨out, e, el, er⟩ := impl_deeps_ev a b c k ha c2.1 c2.2
    exact Ev.bind e (ev_pos c2.1 (ev_pos (by omega) (ev_eq er (ev_ret _))))
  · unfold deepP
    rw [if_neg (fun h => c1 (decide_eq_true h))]
    exact ev_ret _

theorem right_node (a : List S71) (k : Int) (h : deepP a k ≠ 0) : (0 ≤ k ∧ k < a.length) ∧ nodeP a k = true := by
  unfold deepP at h
  split at h
  · rename_i hr
    refine ⟨hr, ?_⟩
    unfold dval at h
    split at h
    · assumption
    · exact absurd rfl h
  · exact absurd rfl h
theorem right_prev (a : List S71) (k j : Int) (h : deepP a k ≠ 0) (h0 : 0 ≤ j) (h1 : j ≤ k) : deepP a j ≠ 0 := by
  have hr := (right_node a k h).1
  unfold deepP at h ⊢
  rw [if_pos hr] at h
  rw [if_pos ⟨h0, by omega⟩]
  intro hz
  refine h ?_
  have hz' : dval a (deepL a j.toNat) ((j.toNat : Nat) : Int) = 0 := by
    rw [show ((j.toNat : Nat) : Int) = j by omega]
    exact hz
  have := dval_dead a j.toNat hz' k.toNat (by omega)
  rw [show ((k.toNat : Nat) : Int) = k by omega] at this
  exact this
theorem node_parts (a : List S71) (k : Int) (h : nodeP a k = true) : kindP (rdOf z71 a k).f0 = true ∧ shapeP a k (rdOf z71 a k).f0 (rdOf z71 a k).f5 = true ∧ namesP (rdOf z71 a k).f0 (rdOf z71 a k).f1 (rdOf z71 a k).f2 (rdOf z71 a k).f3 (rdOf z71 a k).f4 = true := by
  unfold nodeP at h
  split at h
  · simp only [Bool.and_eq_true] at h
    exact ⟨h.2.1.1, h.2.1.2, h.2.2⟩
  · cases h
theorem kid_value (a : List S71) (k x : Int) (h : isV (kidK a k x) = true) : (0 ≤ x ∧ x ≤ k - 1) ∧ isV (rdOf z71 a x).f0 = true := by
  unfold kidK at h
  split at h
  · exact ⟨‹_›, h⟩
  · simp [isV] at h
theorem kid_block (a : List S71) (k x : Int) (h : isB (kidK a k x) = true) : (0 ≤ x ∧ x ≤ k - 1) ∧ (rdOf z71 a x).f0 = 20 := by
  unfold kidK at h
  split at h
  · exact ⟨‹_›, of_decide_eq_true h⟩
  · simp [isB] at h
theorem kid_statement (a : List S71) (k x : Int) (h : isSt (kidK a k x) = true) : (0 ≤ x ∧ x ≤ k - 1) ∧ isSt (rdOf z71 a x).f0 = true := by
  unfold kidK at h
  split at h
  · exact ⟨‹_›, h⟩
  · simp [isSt] at h
theorem shape_calc (a : List S71) (k : Int) (ks : List Int) (h : shapeP a k 3 ks = true) : ∃ x y, ks = [x, y] ∧ isV (kidK a k x) = true ∧ isV (kidK a k y) = true := by
  unfold shapeP at h
  rw [if_neg (by omega), if_pos rfl] at h
  simp only [Bool.and_eq_true, decide_eq_true_iff] at h
  obtain ⟨x, y, rfl⟩ := len2 h.1
  simp at h
  exact ⟨x, y, rfl, h.1, h.2⟩
theorem shape_one (a : List S71) (k t : Int) (ks : List Int) (h : shapeP a k t ks = true) (ht : t = 4 ∨ t = 5 ∨ t = 11 ∨ t = 14 ∨ t = 15) : ∃ x, ks = [x] ∧ isV (kidK a k x) = true := by
  unfold shapeP at h
  rw [if_neg (by omega), if_neg (by omega), if_pos ht] at h
  simp only [Bool.and_eq_true, decide_eq_true_iff] at h
  obtain ⟨x, rfl⟩ := len1 h.1
  simp at h
  exact ⟨x, rfl, h⟩

def getP (s : ByteArray) : List ByteArray → List Int → Int
  | n :: ns, v :: vs => if n = s then v else getP s ns vs
  | _, _ => 0
/-- Where a text first stands, told with the place from which it was counted. -/
theorem idxT_get (s : ByteArray) : ∀ (ns : List ByteArray) (vs : List Int) (j : Int), 0 ≤ j → ∀ vals : List Int, vals.drop j.toNat = vs → j ≤ vals.length →
    (if 0 ≤ idxT s ns j ∧ idxT s ns j < vals.length then rd vals (idxT s ns j) else 0) = getP s ns vs
  | [], vs, j, h, vals, hv, hj => by
    unfold idxT getP
    rw [if_neg (by omega)]
  | n :: ns, vs, j, h, vals, hv, hj => by
    unfold idxT
    cases vs with
    | nil =>
      have hlen : vals.length ≤ j.toNat := List.drop_eq_nil_iff.1 hv
      have hj2 : j = vals.length := by omega
      have e : ∀ (l : List ByteArray) (q : Int), 0 ≤ q → idxT s l q = -1 ∨ q ≤ idxT s l q := by
        intro l
        induction l with
        | nil => intro q _; exact Or.inl rfl
        | cons y l ih =>
          intro q hq
          unfold idxT
          by_cases c : y = s
          · rw [if_pos c]
            exact Or.inr (Int.le_refl _)
          · rw [if_neg c]
            rcases ih (q + 1) (by omega) with h1 | h1
            · exact Or.inl h1
            · exact Or.inr (by omega)
      unfold getP
      by_cases c : n = s
      · rw [if_pos c, if_neg (by omega)]
      · rw [if_neg c]
        rcases e ns (j + 1) (by omega) with h1 | h1
        · rw [if_neg (by omega)]
        · rw [if_neg (by omega)]
    | cons v vs =>
      have hlen : j.toNat < vals.length := by
        rcases Nat.lt_or_ge j.toNat vals.length with h1 | h1
        · exact h1
        · rw [List.drop_eq_nil_of_le h1] at hv
          cases hv
      have hd := drop_rd (d := (0 : Int)) (l := vals) h (by omega)
      rw [hv] at hd
      injection hd with h1 h2
      unfold getP
      by_cases c : n = s
      · rw [if_pos c, if_pos c, if_pos ⟨h, by omega⟩, h1]
        rfl
      · rw [if_neg c, if_neg c]
        exact idxT_get s ns vs (j + 1) (by omega) vals h2.symm (by omega)
theorem impl_GetIn_ev (ns : List ByteArray) (vs : List Int) (s : ByteArray) (hl : ns.length ≤ 1048576) : Ev (fun k => impl_GetIn.f k ns vs s) (getP s ns vs) := by
  have key := idxT_get s ns vs 0 (by omega) vs rfl (by omega)
  unfold impl_GetIn.f impl_valAt.f
  by_cases c : idxT s ns 0 ≥ (vs.length : Int)
  · refine Ev.bind (Ev.bind (slices_Index_ev ns s (by omega)) (ev_pos c (ev_ret _))) (ev_neg (by omega) (ev_eq ?_ (ev_ret _)))
    rw [← key, if_neg (by omega)]
  · refine Ev.bind (Ev.bind (slices_Index_ev ns s (by omega)) (ev_neg c (ev_ret _))) ?_
    by_cases c2 : idxT s ns 0 ≥ 0
    · refine ev_pos c2 (ev_pos c2 (ev_pos (by omega) (ev_eq ?_ (ev_ret _))))
      rw [← key, if_pos ⟨c2, by omega⟩]
    · refine ev_neg c2 (ev_eq ?_ (ev_ret _))
      rw [← key, if_neg (by omega)]

theorem spec_GetIn_l0 (ns : List ByteArray) (vs : List Int) (s : ByteArray) (hl : ns.length ≤ 1048576) (n : Nat) : ∀ (i : Int), 0 ≤ i → (ns.length : Int) - i ≤ n → Ev (fun k => spec_GetIn.l0 k s i ns vs) (getP s (ns.drop i.toNat) (vs.drop i.toNat)) := by
  have stop : ∀ i : Int, Ev (fun k => spec_GetIn.j1 k s i false ns vs) 0 := by
    intro i
    refine ev_step ?_
    simp only [spec_GetIn.j1]
    exact ev_neg (by simp) (ev_ret _)
  induction n with
  | zero =>
    intro i h0 hn
    refine ev_step ?_
    simp only [spec_GetIn.l0]
    rw [drop_end h0 (by omega)]
    unfold getP
    exact ev_neg (by omega) (stop i)
  | succ n ih =>
    intro i h0 hn
    refine ev_step ?_
    simp only [spec_GetIn.l0]
    by_cases c : i < (ns.length : Int)
    · refine ev_pos c ?_
      rw [drop_rd (d := ByteArray.empty) h0 c]
      by_cases c2 : i < (vs.length : Int)
      · rw [drop_rd (d := (0 : Int)) h0 c2, show decide (i < (vs.length : Int)) = true by simpa using c2]
        refine ev_step ?_
        simp only [spec_GetIn.j1]
        refine ev_pos (by simp) (ev_pos h0 (ev_pos c ?_))
        unfold getP
        by_cases c3 : rdOf ByteArray.empty ns i = s
        · rw [if_pos c3]
          exact ev_pos (toList_eq_iff.2 c3) (ev_pos c2 (ev_ret _))
        · rw [if_neg c3, w64 (x := i + 1) (by omega) (by omega)]
          exact ev_neg (fun h => c3 (toList_eq_iff.1 h)) (ih (i + 1) (by omega) (by omega))
      · rw [drop_end (l := vs) h0 c2, show decide (i < (vs.length : Int)) = false by simpa using c2]
        unfold getP
        exact stop i
    · rw [drop_end h0 c]
      unfold getP
      exact ev_neg c (stop i)
theorem spec_GetIn_ev (ns : List ByteArray) (vs : List Int) (s : ByteArray) (hl : ns.length ≤ 1048576) : Ev (fun k => spec_GetIn.f k ns vs s) (getP s ns vs) := by
  unfold spec_GetIn.f
  have h := spec_GetIn_l0 ns vs s hl ns.length 0 (by omega) (by omega)
  simpa using h

def vok (n : Int) : Prop := -1000000 ≤ n ∧ n ≤ 1000000
instance (n : Int) : Decidable (vok n) := inferInstanceAs (Decidable (_ ∧ _))
def bit (b : Bool) : Int := if b then 1 else 0
def rawP (op a b : Int) : Int :=
  if op = 1 then a + b else if op = 2 then a - b else if op = 3 then a * b else if op = 4 then Int.tdiv a b else if op = 5 then Int.tmod a b
  else if op = 6 then bit (decide (a < b)) else if op = 7 then bit (a == b) else if op = 8 then bit (a != 0 && b != 0) else if op = 9 then bit (a != 0 || b != 0) else 0
def calcP (op a b : Int) : Int × Int :=
  if (1 ≤ op ∧ op ≤ 9) ∧ vok a ∧ vok b then (if b = 0 ∧ (op = 4 ∨ op = 5) then (0, 2) else if vok (rawP op a b) then (rawP op a b, 0) else (0, 1)) else (0, 1)
theorem bit_some (b : Bool) : (if b = true then (some 1) else (some 0) : Option Int) = some (bit b) := by cases b <;> rfl
theorem mul_small {a b : Int} (ha : vok a) (hb : vok b) : -1000000000000 ≤ a * b ∧ a * b ≤ 1000000000000 := by
  obtain ⟨a0, a1⟩ := ha
  obtain ⟨b0, b1⟩ := hb
  have h1 : 0 ≤ (1000000 - a) * (1000000 + b) := Int.mul_nonneg (by omega) (by omega)
  have h2 : 0 ≤ (1000000 + a) * (1000000 - b) := Int.mul_nonneg (by omega) (by omega)
  have h3 : 0 ≤ (1000000 - a) * (1000000 - b) := Int.mul_nonneg (by omega) (by omega)
  have h4 : 0 ≤ (1000000 + a) * (1000000 + b) := Int.mul_nonneg (by omega) (by omega)
  rw [Int.sub_mul, Int.mul_add, Int.mul_add] at h1
  rw [Int.add_mul, Int.mul_sub, Int.mul_sub] at h2
  rw [Int.sub_mul, Int.mul_sub, Int.mul_sub] at h3
  rw [Int.add_mul, Int.mul_add, Int.mul_add] at h4
  constructor <;> omega
theorem tdiv_small {a b : Int} (ha : vok a) : -1000000 ≤ Int.tdiv a b ∧ Int.tdiv a b ≤ 1000000 := by
  obtain ⟨a0, a1⟩ := ha
  have h : (Int.tdiv a b).natAbs ≤ a.natAbs := by
    rw [Int.natAbs_tdiv]
    exact Nat.div_le_self _ _
  omega
theorem vok_some_neg : True := trivial

theorem impl_ValOk_some (n : Int) : impl_ValOk.f n = some (decide (vok n)) := by
  unfold impl_ValOk.f
  rw [within_some]
  rfl
theorem impl_truth_some (b : Bool) : impl_truth.f b = some (bit b) := bit_some b
theorem impl_Calc_k (op a b : Int) (k : Nat) : impl_Calc.f (k + 2) op a b = some (calcP op a b) := by
  unfold impl_Calc.f calcP
  simp only [within_some, impl_ValOk_some, impl_truth_some, Option.bind_some, decide_eq_true_eq]
  by_cases hop : 1 ≤ op ∧ op ≤ 9
  · rw [if_pos hop]
    by_cases ha : vok a
    · rw [if_pos ha]
      by_cases hb : vok b
      · rw [if_pos ⟨hop, ha, hb⟩]
        have hm := mul_small ha hb
        have hd := tdiv_small (b := b) ha
        have ha2 := ha
        have hb2 := hb
        obtain ⟨a0, a1⟩ := ha2
        obtain ⟨b0, b1⟩ := hb2
        simp only [hb, decide_true, Bool.not_true, impl_Calc.j0, impl_Calc.j1, Bool.false_eq_true, if_false]
        rw [w64 (x := a + b) (by omega) (by omega), w64 (x := a - b) (by omega) (by omega), w64 (x := a * b) (by omega) (by omega), w64 (x := Int.tdiv a b) (by omega) (by omega)]
        simp only [impl_ValOk_some, impl_truth_some, Option.bind_some, decide_eq_true_eq]
        have hcase : op = 1 ∨ op = 2 ∨ op = 3 ∨ op = 4 ∨ op = 5 ∨ op = 6 ∨ op = 7 ∨ op = 8 ∨ op = 9 := by omega
        have hz : ∀ x : Int, x = 0 ∨ (¬ x = 0 ∧ (x != 0) = true ∧ (x == 0) = false) := fun x => by
          by_cases h : x = 0
          · exact Or.inl h
          · exact Or.inr ⟨h, by simpa using h, by simpa using h⟩
        rcases hz b with rfl | ⟨z, z1, z2⟩ <;> rcases hz a with rfl | ⟨y, y1, y2⟩ <;> rcases hcase with rfl | rfl | rfl | rfl | rfl | rfl | rfl | rfl | rfl <;> simp [rawP, *] <;> (repeat' split) <;> simp_all
      · rw [if_neg (fun h => hb h.2.2)]
        simp [hb, impl_Calc.j0]
    · rw [if_neg ha, if_neg (fun h => ha h.2.1)]
      simp [impl_Calc.j0]
  · rw [if_neg hop, if_neg (fun h => hop h.1)]
    simp [impl_Calc.j0]
theorem impl_Calc_ev (op a b : Int) : Ev (fun k => impl_Calc.f k op a b) (calcP op a b) := ⟨2, fun k hk => by
  obtain ⟨m, rfl⟩ : ∃ m, k = m + 2 := ⟨k - 2, by omega⟩
  exact impl_Calc_k op a b m⟩

theorem spec_ValOk_some (n : Int) : spec_ValOk.f n = some (decide (vok n)) := by
  unfold spec_ValOk.f
  rw [l01In_some]
  rfl
theorem spec_l03Bit_some (b : Bool) : spec_l03Bit.f b = some (bit b) := bit_some b
theorem spec_Calc_k (op a b : Int) (k : Nat) : spec_Calc.f (k + 2) op a b = some (calcP op a b) := by
  unfold spec_Calc.f calcP
  simp only [l01In_some, spec_ValOk_some, spec_l03Bit_some, Option.bind_some, decide_eq_true_eq]
  by_cases ha : vok a
  · rw [if_pos ha]
    by_cases hb : vok b
    · rw [if_pos hb]
      by_cases hop : 1 ≤ op ∧ op ≤ 9
      · rw [if_pos ⟨hop, ha, hb⟩]
        have hm := mul_small ha hb
        have hd := tdiv_small (b := b) ha
        have ha2 := ha
        have hb2 := hb
        obtain ⟨a0, a1⟩ := ha2
        obtain ⟨b0, b1⟩ := hb2
        simp only [hop, and_self, decide_true, Bool.not_true, spec_Calc.j0, spec_Calc.j1, Bool.false_eq_true, if_false]
        rw [w64 (x := a + b) (by omega) (by omega), w64 (x := a - b) (by omega) (by omega), w64 (x := a * b) (by omega) (by omega), w64 (x := Int.tdiv a b) (by omega) (by omega)]
        simp only [spec_ValOk_some, spec_l03Bit_some, Option.bind_some, decide_eq_true_eq]
        have hcase : op = 1 ∨ op = 2 ∨ op = 3 ∨ op = 4 ∨ op = 5 ∨ op = 6 ∨ op = 7 ∨ op = 8 ∨ op = 9 := by omega
        have hz : ∀ x : Int, x = 0 ∨ (¬ x = 0 ∧ (x != 0) = true ∧ (x == 0) = false) := fun x => by
          by_cases h : x = 0
          · exact Or.inl h
          · exact Or.inr ⟨h, by simpa using h, by simpa using h⟩
        rcases hz b with rfl | ⟨z, z1, z2⟩ <;> rcases hz a with rfl | ⟨y, y1, y2⟩ <;> rcases hcase with rfl | rfl | rfl | rfl | rfl | rfl | rfl | rfl | rfl <;> simp [rawP, *] <;> (repeat' split) <;> simp_all
      · rw [if_neg (fun h => hop h.1)]
        simp [hop, spec_Calc.j0]
    · rw [if_neg hb, if_neg (fun h => hb h.2.2)]
      simp [spec_Calc.j0]
  · rw [if_neg ha, if_neg (fun h => ha h.2.1)]
    simp [spec_Calc.j0]
theorem spec_Calc_ev (op a b : Int) : Ev (fun k => spec_Calc.f k op a b) (calcP op a b) := ⟨2, fun k hk => by
  obtain ⟨m, rfl⟩ : ∃ m, k = m + 2 := ⟨k - 2, by omega⟩
  exact spec_Calc_k op a b m⟩

theorem spec_DeepOf_ev (a : List S71) (b : List S111) (c : List S115) (k : Int) (ha : fitN a) : Ev (fun j => spec_DeepOf.f j a b c k) (deepP a k) := by
  have hna := ha.1
  unfold spec_DeepOf.f deepP
  rw [w64 (x := (a.length : Int) - 1) (by omega) (by omega)]
  refine ev_bindc (l01In_some _ _ _) (ev_ite (fun c1 => ?_) (fun c1 => ?_))
  · have c2 := of_decide_eq_true c1
    have hl := deepL_length a a.length
    rw [if_pos (by omega)]
    refine Ev.bind (spec_deeps_ev a b c ha) (ev_pos (by omega) (ev_pos (by omega) (ev_eq ?_ (ev_ret _))))
    have := deepL_rd a k.toNat a.length (by omega)
    rw [show ((k.toNat : Nat) : Int) = k by omega] at this
    exact this
  · rw [if_neg (fun h => c1 (decide_eq_true (by omega)))]
    exact ev_ret _

theorem kidAt_some (a : List S71) (b : List S111) (c : List S115) (k i : Int) (ha : a.length ≤ 1048576) (h0 : 0 ≤ k) (h1 : k < a.length) (hi : 0 ≤ i) (hi1 : i < (rdOf z71 a k).f5.length) : impl_kidAt.f a b c k i = some (rd (rdOf z71 a k).f5 i) := by
  have E : ∀ i, rd_T71 a i = rdOf z71 a i := fun _ => rfl
  unfold impl_kidAt.f
  rw [isNode_some a b c k ha, Option.bind_some]
  simp only [E]
  rw [if_pos (decide_eq_true ⟨h0, h1⟩), if_pos h0, if_pos h1, if_neg (by omega), if_pos hi, if_pos hi1]
theorem isValue_any (a : List S71) (b : List S111) (c : List S115) (x : Int) (ha : a.length ≤ 1048576) : impl_isValue.f a b c x = some (decide (0 ≤ x ∧ x < a.length) && isV (rdOf z71 a x).f0) := by
  by_cases h : 0 ≤ x ∧ x < a.length
  · rw [isValue_some a b c x ha h.1 h.2, decide_eq_true h, Bool.true_and]
  · unfold impl_isValue.f
    rw [isNode_some a b c x ha, Option.bind_some, decide_eq_false h]
    rfl
theorem impl_Denied_some (x : Int) : impl_Denied.f x = some (bit (x == 0)) := by
  unfold impl_Denied.f
  rw [impl_truth_some]
  rfl
theorem spec_Denied_some (x : Int) : spec_Denied.f x = some (bit (x == 0)) := by
  unfold spec_Denied.f
  rw [spec_l03Bit_some]
  rfl
theorem impl_Negated_some (x : Int) : impl_Negated.f x = some (if vok x then (wrap64 (-x), 0) else (0, 1)) := by
  unfold impl_Negated.f
  rw [impl_ValOk_some, Option.bind_some]
  by_cases h : vok x
  · rw [if_pos (decide_eq_true h), if_pos h]
  · rw [if_neg (by simpa using h), if_neg h]
theorem spec_Negated_some (x : Int) : spec_Negated.f x = some (if vok x then (wrap64 (-x), 0) else (0, 1)) := by
  unfold spec_Negated.f
  rw [spec_ValOk_some, Option.bind_some]
  by_cases h : vok x
  · rw [if_pos (decide_eq_true h), if_pos h]
  · rw [if_neg (by simpa using h), if_neg h]
/-- The value of a right node: both tell the same. -/
theorem value_ev (a : List S71) (b : List S111) (c : List S115) (ns : List ByteArray) (vs : List Int) (ha : fitN a) (hn : ns.length ≤ 1048576) (N : Nat) : ∀ k : Int, k < N → deepP a k ≠ 0 → isV (rdOf z71 a k).f0 = true →
    ∃ r, Ev (fun j => spec_l10Value.f j a b c k ns vs) r ∧ Ev (fun j => impl_ValueOf.f j a b c k ns vs) r := by
  have hna := ha.1
  have E : ∀ i, rd_T71 a i = rdOf z71 a i := fun _ => rfl
  induction N with
  | zero =>
    intro k hk hd hv
    have := (right_node a k hd).1
    omega
  | succ N ih =>
    intro k hk hd hv
    obtain ⟨hr, hnode⟩ := right_node a k hd
    obtain ⟨_, hsh, hnm⟩ := node_parts a k hnode
    -- the program's way in
    have enter : ∀ r, Ev (fun j => impl_ValueOf.j0 j k (deepP a k == 0) a b c ns vs) r → Ev (fun j => impl_ValueOf.f j a b c k ns vs) r := by
      intro r h
      refine ev_step ?_
      simp only [impl_ValueOf.f]
      refine ev_bindc (isValue_any a b c k hna) (ev_pos (by rw [decide_eq_true hr, hv]; rfl) (Ev.bind (impl_DeepOf_ev a b c k ha) h))
    have hz : (deepP a k == 0) = false := by simpa using hd
    rw [hz] at enter
    have hvb := of_decide_eq_true hv
    by_cases t1 : (rdOf z71 a k).f0 = 1
    · refine ⟨((rdOf z71 a k).f1, 0), ev_step ?_, enter _ (ev_step ?_)⟩
      · simp only [spec_l10Value.f, E]
        exact ev_pos hr.1 (ev_pos hr.2 (ev_pos t1 (ev_ret _)))
      · simp only [impl_ValueOf.j0, E]
        refine ev_neg (by decide) (ev_pos hr.1 (ev_pos hr.2 (ev_pos t1 (ev_bindc (impl_ValOk_some _) (ev_pos (decide_eq_true ?_) (ev_ret _))))))
        unfold namesP at hnm
        rw [t1, if_neg (show ¬ ((1 : Int) = 14) by decide), if_pos rfl] at hnm
        simp only [Bool.and_eq_true, decide_eq_true_iff] at hnm
        have := hnm.2.2
        unfold vok
        omega
    · by_cases t2 : (rdOf z71 a k).f0 = 2
      · refine ⟨(getP (rdOf z71 a k).f2 ns vs, 0), ev_step ?_, enter _ (ev_step ?_)⟩
        · simp only [spec_l10Value.f, E]
          exact ev_pos hr.1 (ev_pos hr.2 (ev_neg t1 (ev_pos t2 (Ev.bind (spec_GetIn_ev ns vs _ hn) (ev_ret _)))))
        · simp only [impl_ValueOf.j0, E]
          exact ev_neg (by decide) (ev_pos hr.1 (ev_pos hr.2 (ev_neg t1 (ev_pos t2 (Ev.bind (impl_GetIn_ev ns vs _ hn) (ev_ret _))))))
      · by_cases t45 : (rdOf z71 a k).f0 = 4 ∨ (rdOf z71 a k).f0 = 5
        · obtain ⟨x, hks, hx⟩ := shape_one a k _ _ hsh (by omega)
          obtain ⟨hx1, hx2⟩ := kid_value a k x hx
          have hlen : (rdOf z71 a k).f5.length = 1 := by rw [hks]; rfl
          have hx0 : rd (rdOf z71 a k).f5 0 = x := by rw [hks]; rfl
          have hkid := kidAt_some a b c k 0 hna hr.1 hr.2 (by omega) (by omega)
          rw [hx0] at hkid
          obtain ⟨A, e1, e2⟩ := ih x (by omega) (right_prev a k x hd hx1.1 (by omega)) hx2
          refine ⟨if A.2 = 0 then (if (rdOf z71 a k).f0 = 4 then (bit (A.1 == 0), 0) else if vok A.1 then (wrap64 (-A.1), 0) else (0, 1)) else (0, A.2), ev_step ?_, enter _ (ev_step ?_)⟩
          · simp only [spec_l10Value.f, E]
            refine ev_pos hr.1 (ev_pos hr.2 (ev_neg t1 (ev_neg t2 (ev_pos (by omega) ?_))))
            rw [hx0]
            refine Ev.bind e1 (ev_ite (fun c1 => ?_) (fun c1 => ?_))
            · rw [if_pos c1]
              refine ev_ite (fun c2 => ?_) (fun c2 => ?_)
              · rw [if_pos c2]
                exact ev_bindc (spec_Denied_some _) (ev_ret _)
              · rw [if_neg c2]
                exact ev_pos (by omega) (ev_bindc (spec_Negated_some _) (ev_ret _))
            · rw [if_neg c1]
              exact ev_ret _
          · simp only [impl_ValueOf.j0, E]
            refine ev_neg (by decide) (ev_pos hr.1 (ev_pos hr.2 (ev_neg t1 (ev_neg t2 (ev_bindc hkid (Ev.bind e2 (ev_ite (fun c1 => ?_) (fun c1 => ?_))))))))
            · rw [if_pos c1]
              refine ev_ite (fun c2 => ?_) (fun c2 => ?_)
              · rw [if_pos c2]
                exact ev_bindc (impl_Denied_some _) (ev_ret _)
              · rw [if_neg c2]
                exact ev_pos (by omega) (ev_bindc (impl_Negated_some _) (ev_ret _))
            · rw [if_neg c1]
              exact ev_ret _
        · have t3 : (rdOf z71 a k).f0 = 3 := by omega
          rw [t3] at hsh
          obtain ⟨x, y, hks, hx, hy⟩ := shape_calc a k _ hsh
          obtain ⟨hx1, hx2⟩ := kid_value a k x hx
          obtain ⟨hy1, hy2⟩ := kid_value a k y hy
          have hlen : (rdOf z71 a k).f5.length = 2 := by rw [hks]; rfl
          have hx0 : rd (rdOf z71 a k).f5 0 = x := by rw [hks]; rfl
          have hy0 : rd (rdOf z71 a k).f5 1 = y := by rw [hks]; rfl
          have hkx := kidAt_some a b c k 0 hna hr.1 hr.2 (by omega) (by omega)
          have hky := kidAt_some a b c k 1 hna hr.1 hr.2 (by omega) (by omega)
          rw [hx0] at hkx
          rw [hy0] at hky
          obtain ⟨A, e1, e2⟩ := ih x (by omega) (right_prev a k x hd hx1.1 (by omega)) hx2
          obtain ⟨B, f1, f2⟩ := ih y (by omega) (right_prev a k y hd hy1.1 (by omega)) hy2
          refine ⟨if A.2 = 0 then (if B.2 = 0 then calcP (rdOf z71 a k).f1 A.1 B.1 else (0, B.2)) else (0, A.2), ev_step ?_, enter _ (ev_step ?_)⟩
          · simp only [spec_l10Value.f, E]
            refine ev_pos hr.1 (ev_pos hr.2 (ev_neg t1 (ev_neg t2 (ev_pos (by omega) ?_))))
            rw [hx0, hy0]
            refine Ev.bind e1 (ev_ite (fun c1 => ?_) (fun c1 => ?_))
            · rw [if_pos c1]
              refine ev_neg (by omega) (ev_neg (by omega) (ev_pos (by omega) (Ev.bind f1 (ev_ite (fun c2 => ?_) (fun c2 => ?_)))))
              · rw [if_pos c2]
                exact Ev.bind (spec_Calc_ev _ _ _) (ev_ret _)
              · rw [if_neg c2]
                exact ev_ret _
            · rw [if_neg c1]
              exact ev_ret _
          · simp only [impl_ValueOf.j0, E]
            refine ev_neg (by decide) (ev_pos hr.1 (ev_pos hr.2 (ev_neg t1 (ev_neg t2 (ev_bindc hkx (Ev.bind e2 (ev_ite (fun c1 => ?_) (fun c1 => ?_))))))))
            · rw [if_pos c1]
              refine ev_neg (by omega) (ev_neg (by omega) (ev_bindc hky (Ev.bind f2 (ev_ite (fun c2 => ?_) (fun c2 => ?_)))))
              · rw [if_pos c2]
                exact Ev.bind (impl_Calc_ev _ _ _) (ev_ret _)
              · rw [if_neg c2]
                exact ev_ret _
            · rw [if_neg c1]
              exact ev_ret _
theorem ValueOf_ev (a : List S71) (b : List S111) (c : List S115) (k : Int) (ns : List ByteArray) (vs : List Int) (ha : fitN a) (hn : ns.length ≤ 1048576) :
    ∃ r, Ev (fun j => spec_ValueOf.f j a b c k ns vs) r ∧ Ev (fun j => impl_ValueOf.f j a b c k ns vs) r := by
  have E : ∀ i, rd_T71 a i = rdOf z71 a i := fun _ => rfl
  have bad : ∀ x : Bool, x = true → Ev (fun j => impl_ValueOf.j0 j k x a b c ns vs) (0, 1) := by
    intro x hx
    refine ev_step ?_
    simp only [impl_ValueOf.j0]
    exact ev_pos hx (ev_ret _)
  have hD := impl_DeepOf_ev a b c k ha
  by_cases hd : deepP a k = 0
  · refine ⟨(0, 1), ?_, ev_step ?_⟩
    · unfold spec_ValueOf.f
      exact Ev.bind (spec_DeepOf_ev a b c k ha) (ev_pos hd (ev_ret _))
    · simp only [impl_ValueOf.f]
      refine ev_bindc (isValue_any a b c k ha.1) (ev_ite (fun _ => Ev.bind hD (bad _ (by rw [hd]; rfl))) (fun _ => bad true rfl))
  · have hr := (right_node a k hd).1
    by_cases hv : isV (rdOf z71 a k).f0 = true
    · obtain ⟨r, e1, e2⟩ := value_ev a b c ns vs ha hn (k.toNat + 1) k (by omega) hd hv
      refine ⟨r, ?_, e2⟩
      unfold spec_ValueOf.f
      simp only [E]
      exact Ev.bind (spec_DeepOf_ev a b c k ha) (ev_neg hd (ev_pos hr.1 (ev_pos hr.2 (ev_bindc (isV_l01 _) (ev_pos hv (Ev.bind e1 (ev_ret _)))))))
    · refine ⟨(0, 1), ?_, ev_step ?_⟩
      · unfold spec_ValueOf.f
        simp only [E]
        exact Ev.bind (spec_DeepOf_ev a b c k ha) (ev_neg hd (ev_pos hr.1 (ev_pos hr.2 (ev_bindc (isV_l01 _) (ev_neg hv (ev_ret _))))))
      · simp only [impl_ValueOf.f]
        rw [Bool.not_eq_true] at hv
        exact ev_bindc (isValue_any a b c k ha.1) (ev_neg (by rw [hv, Bool.and_false]; decide) (bad true rfl))

/-- Where a name's value stands, it is put. -/
def putP (s : ByteArray) (x : Int) : List ByteArray → List Int → List Int
  | n :: ns, v :: vs => if n = s then x :: vs else v :: putP s x ns vs
  | _, vs => vs
def putV (s : ByteArray) (x : Int) (ns : List ByteArray) (vs : List Int) : List Int := if vok x then putP s x ns vs else vs
theorem putP_length (s : ByteArray) (x : Int) : ∀ (ns : List ByteArray) (vs : List Int), (putP s x ns vs).length = vs.length
  | [], vs => by simp [putP]
  | n :: ns, [] => by simp [putP]
  | n :: ns, v :: vs => by
    unfold putP
    by_cases c : n = s
    · rw [if_pos c]
      simp
    · rw [if_neg c]
      simp [putP_length s x ns vs]
theorem putV_length (s : ByteArray) (x : Int) (ns : List ByteArray) (vs : List Int) : (putV s x ns vs).length = vs.length := by
  unfold putV
  split
  · exact putP_length s x ns vs
  · rfl
theorem putP_nil (s : ByteArray) (x : Int) (ns : List ByteArray) : putP s x ns [] = [] := by
  cases ns <;> rfl
theorem set_place (vals : List Int) (j : Int) (x : Int) (h0 : 0 ≤ j) (h1 : j < vals.length) : vals.set j.toNat x = vals.take j.toNat ++ x :: vals.drop (j + 1).toNat := by
  rw [List.set_eq_take_append_cons_drop, if_pos (by omega), show (j + 1).toNat = j.toNat + 1 by omega]
theorem take_place (vals : List Int) (j : Int) (h0 : 0 ≤ j) (h1 : j < vals.length) (l : List Int) : vals.take (j + 1).toNat ++ l = vals.take j.toNat ++ rdOf 0 vals j :: l := by
  rw [take_rd (0 : Int) h0 h1, List.append_assoc]
  rfl
theorem idxT_least (s : ByteArray) : ∀ (l : List ByteArray) (q : Int), 0 ≤ q → idxT s l q = -1 ∨ q ≤ idxT s l q
  | [], q, _ => Or.inl rfl
  | y :: l, q, hq => by
    unfold idxT
    by_cases c : y = s
    · rw [if_pos c]
      exact Or.inr (Int.le_refl _)
    · rw [if_neg c]
      rcases idxT_least s l (q + 1) (by omega) with h1 | h1
      · exact Or.inl h1
      · exact Or.inr (by omega)
theorem idxT_put (s : ByteArray) (x : Int) (vals : List Int) : ∀ (ns : List ByteArray) (j : Int), 0 ≤ j → j ≤ vals.length →
    (if 0 ≤ idxT s ns j ∧ idxT s ns j < vals.length then vals.set (idxT s ns j).toNat x else vals) = vals.take j.toNat ++ putP s x ns (vals.drop j.toNat)
  | [], j, h, hj => by
    unfold idxT putP
    rw [if_neg (by omega), List.take_append_drop]
  | n :: ns, j, h, hj => by
    by_cases hl : j < vals.length
    · rw [drop_rd (d := (0 : Int)) h hl]
      unfold idxT putP
      by_cases c : n = s
      · rw [if_pos c, if_pos c, if_pos ⟨h, hl⟩, set_place vals j x h hl]
      · rw [if_neg c, if_neg c, idxT_put s x vals ns (j + 1) (by omega) (by omega), take_place vals j h hl]
    · rw [drop_end (l := vals) h hl, putP_nil, List.append_nil, List.take_of_length_le (by omega)]
      rcases idxT_least s (n :: ns) j h with h1 | h1
      · rw [if_neg (by omega)]
      · rw [if_neg (by omega)]
theorem impl_ValOk_some3 (n : Int) : impl_ValOk.f n = some (decide (vok n)) := by
  unfold impl_ValOk.f
  rw [within_some]
  rfl
theorem spec_ValOk_some3 (n : Int) : spec_ValOk.f n = some (decide (vok n)) := by
  unfold spec_ValOk.f
  rw [l01In_some]
  rfl
theorem impl_PutIn_ev (ns : List ByteArray) (vs : List Int) (s : ByteArray) (x : Int) (hl : ns.length ≤ 1048576) (hl2 : vs.length ≤ 1048576) : Ev (fun k => impl_PutIn.f k ns vs s x) (ns, putV s x ns vs) := by
  have key := idxT_put s x vs ns 0 (by omega) (by omega)
  simp only [Int.toNat_zero, List.take_zero, List.nil_append, List.drop_zero] at key
  have hc : impl_copyEnv.f ns vs = some (ns, vs) := by
    unfold impl_copyEnv.f
    rw [if_pos (by simp; omega), if_pos (by simp; omega)]
    simp
  unfold impl_PutIn.f impl_valAt.f
  refine ev_bindc hc ?_
  by_cases c : idxT s ns 0 ≥ (vs.length : Int)
  · refine Ev.bind (Ev.bind (slices_Index_ev ns s (by omega)) (ev_pos c (ev_ret _))) (ev_neg (by omega) (ev_eq ?_ (ev_ret _)))
    rw [if_neg (by omega)] at key
    unfold putV
    rw [← key]
    split <;> rfl
  · refine Ev.bind (Ev.bind (slices_Index_ev ns s (by omega)) (ev_neg c (ev_ret _))) ?_
    by_cases c2 : idxT s ns 0 ≥ 0
    · rw [if_pos ⟨c2, by omega⟩] at key
      refine ev_pos c2 (ev_bindc (impl_ValOk_some3 x) ?_)
      unfold putV
      by_cases c3 : vok x
      · rw [if_pos c3, ← key]
        exact ev_pos (by simpa using c3) (ev_pos c2 (ev_pos (show idxT s ns 0 < (vs.length : Int) by omega) (ev_ret _)))
      · rw [if_neg c3]
        exact ev_neg (by simpa using c3) (ev_ret _)
    · refine ev_neg c2 (ev_eq ?_ (ev_ret _))
      rw [if_neg (by omega)] at key
      unfold putV
      rw [← key]
      split <;> rfl
theorem spec_PutIn_l0 (ns : List ByteArray) (vs : List Int) (s : ByteArray) (x : Int) (hl : ns.length ≤ 1048576) (n : Nat) : ∀ (i : Int), 0 ≤ i → (ns.length : Int) - i ≤ n → i ≤ vs.length →
    Ev (fun k => spec_PutIn.l0 k s x i ns vs ns vs) (ns, if vok x then vs.take i.toNat ++ putP s x (ns.drop i.toNat) (vs.drop i.toNat) else vs) := by
  have stop : ∀ i : Int, Ev (fun k => spec_PutIn.j1 k s x i false ns vs ns vs) (ns, vs) := by
    intro i
    refine ev_step ?_
    simp only [spec_PutIn.j1]
    exact ev_neg (by simp) (ev_ret _)
  have same : ∀ i : Int, (if vok x then vs.take i.toNat ++ vs.drop i.toNat else vs) = vs := by
    intro i
    rw [List.take_append_drop]
    split <;> rfl
  induction n with
  | zero =>
    intro i h0 hn hv
    refine ev_step ?_
    simp only [spec_PutIn.l0]
    rw [drop_end (l := ns) h0 (by omega), show putP s x [] (vs.drop i.toNat) = vs.drop i.toNat from rfl, same]
    exact ev_neg (by omega) (stop i)
  | succ n ih =>
    intro i h0 hn hv
    refine ev_step ?_
    simp only [spec_PutIn.l0]
    by_cases c : i < (ns.length : Int)
    · refine ev_pos c ?_
      by_cases c2 : i < (vs.length : Int)
      · rw [show decide (i < (vs.length : Int)) = true by simpa using c2]
        refine ev_step ?_
        simp only [spec_PutIn.j1]
        refine ev_pos (by simp) (ev_pos h0 (ev_pos c ?_))
        have next := ih (i + 1) (by omega) (by omega) (by omega)
        rw [take_place vs i h0 c2] at next
        rw [w64 (x := i + 1) (by omega) (by omega), drop_rd (d := ByteArray.empty) (l := ns) h0 c, drop_rd (d := (0 : Int)) (l := vs) h0 c2]
        unfold putP
        by_cases c3 : rdOf ByteArray.empty ns i = s
        · rw [if_pos c3]
          refine ev_pos (toList_eq_iff.2 c3) (ev_bindc (spec_ValOk_some3 x) ?_)
          by_cases c4 : vok x
          · rw [if_pos c4, ← set_place vs i x h0 c2]
            exact ev_pos (by simpa using c4) (ev_pos c2 (ev_ret _))
          · rw [if_neg c4] at next ⊢
            exact ev_neg (by simpa using c4) next
        · rw [if_neg c3]
          exact ev_neg (fun h => c3 (toList_eq_iff.1 h)) next
      · rw [drop_end (l := vs) h0 c2, show decide (i < (vs.length : Int)) = false by simpa using c2, putP_nil, List.append_nil, List.take_of_length_le (by omega), show (if vok x then vs else vs) = vs by split <;> rfl]
        exact stop i
    · rw [drop_end (l := ns) h0 c, show putP s x [] (vs.drop i.toNat) = vs.drop i.toNat from rfl, same]
      exact ev_neg c (stop i)
theorem spec_PutIn_ev (ns : List ByteArray) (vs : List Int) (s : ByteArray) (x : Int) (hl : ns.length ≤ 1048576) (hl2 : vs.length ≤ 1048576) : Ev (fun k => spec_PutIn.f k ns vs s x) (ns, putV s x ns vs) := by
  unfold spec_PutIn.f
  have hc : spec_l10Copy.f ns vs = some (ns, vs) := by
    unfold spec_l10Copy.f
    simp only [Option.bind_some]
    rw [if_pos (by simp; omega), if_pos (by simp; omega)]
    simp
  have h := spec_PutIn_l0 ns vs s x hl ns.length 0 (by omega) (by omega) (by omega)
  simp only [Int.toNat_zero, List.take_zero, List.nil_append, List.drop_zero] at h
  exact ev_bindc hc h

def pastP (a : List Int) : List Int := a.take (a.length - 1)
theorem pastP_length (a : List Int) : (pastP a).length ≤ a.length := by
  unfold pastP
  rw [List.length_take]
  omega
theorem past_body (a : List Int) (ns : List ByteArray) (vs : List Int) (st : Int) (h0 : a.length ≤ 1048576) :
    Ev (fun k => if (a.length : Int) > 0 then (if 0 ≤ (wrap64 ((a.length : Int) - 1)) then (if (wrap64 ((a.length : Int) - 1)) ≤ (a.length : Int) then (some ((a.take ((wrap64 ((a.length : Int) - 1)) : Int).toNat), ns, vs, st)) else (none)) else (none)) else (some (a, ns, vs, st))) (pastP a, ns, vs, st) := by
  rw [w64 (x := (a.length : Int) - 1) (by omega) (by omega)]
  by_cases c : (a.length : Int) > 0
  · refine ev_pos c (ev_pos (by omega) (ev_pos (by omega) (ev_eq ?_ (ev_ret _))))
    unfold pastP
    rw [show ((a.length : Int) - 1).toNat = a.length - 1 by omega]
  · refine ev_neg c (ev_eq ?_ (ev_ret _))
    unfold pastP
    rw [List.take_of_length_le (by omega)]
theorem impl_Past_ev (a : List Int) (ns : List ByteArray) (vs : List Int) (st : Int) (h0 : a.length ≤ 1048576) (h1 : ns.length ≤ 1048576) (h2 : vs.length ≤ 1048576) : Ev (fun k => impl_Past.f a ns vs st) (pastP a, ns, vs, st) := by
  have hc : impl_copyThread.f a ns vs st = some (a, ns, vs, st) := by
    unfold impl_copyThread.f impl_copyEnv.f
    rw [if_pos (by simp; omega), if_pos (by simp; omega), if_pos (by simp; omega)]
    simp
  unfold impl_Past.f
  exact ev_bindc hc (past_body a ns vs st h0)

def kindS (a : List S71) (st : List Int) : Int :=
  if st = [] then 0 else if 0 ≤ rd st ((st.length : Int) - 1) ∧ rd st ((st.length : Int) - 1) < a.length then (rdOf z71 a (rd st ((st.length : Int) - 1))).f0 else 0
def stateP (a : List S71) (st : List Int) (x : Int) : Int :=
  if x = 0 then (if st = [] then 2 else if kindS a st = 14 ∨ kindS a st = 15 ∨ kindS a st = 16 ∨ kindS a st = 17 ∨ kindS a st = 18 then 1 else 0) else 3
theorem state_tail (t : Int) : (if t = 14 then (some 1) else (if t = 15 then (some 1) else (if t = 16 then (some 1) else (if t = 17 then (some 1) else (if t = 18 then (some 1) else (some 0))))) : Option Int) = some (if t = 14 ∨ t = 15 ∨ t = 16 ∨ t = 17 ∨ t = 18 then 1 else 0) := by
  by_cases c1 : t = 14
  · simp [c1]
  · by_cases c2 : t = 15
    · simp [c2]
    · by_cases c3 : t = 16
      · simp [c3]
      · by_cases c4 : t = 17
        · simp [c4]
        · by_cases c5 : t = 18
          · simp [c5]
          · simp [c1, c2, c3, c4, c5]
theorem nil_length {α : Type} (l : List α) : ((l.length : Int) = 0) ↔ l = [] := by
  cases l with
  | nil => simp
  | cons x l => simp; omega
theorem spec_StateOf_some (a : List S71) (b : List S111) (c : List S115) (st : List Int) (ns : List ByteArray) (vs : List Int) (x : Int) (h0 : a.length ≤ 1048576) (h1 : st.length ≤ 1048576) : spec_StateOf.f a b c st ns vs x = some (stateP a st x) := by
  unfold spec_StateOf.f stateP
  by_cases c1 : x = 0
  · rw [if_pos c1, if_pos c1]
    by_cases c2 : st = []
    · rw [if_pos ((nil_length st).2 c2), if_pos c2]
    · have c2' : ¬ (st.length : Int) = 0 := fun h => c2 ((nil_length st).1 h)
      rw [if_neg c2', if_neg c2]
      have hk : spec_l11Kind.f a b c st ns vs x = some (kindS a st) := by
        unfold spec_l11Kind.f kindS
        rw [if_neg c2', if_neg c2, w64 (x := (st.length : Int) - 1) (by omega) (by omega), w64 (x := (a.length : Int) - 1) (by omega) (by omega), if_pos (by omega), if_pos (by omega), l01In_some]
        simp only [Option.bind_some]
        by_cases c3 : 0 ≤ rd st ((st.length : Int) - 1) ∧ rd st ((st.length : Int) - 1) < a.length
        · rw [if_pos (decide_eq_true ⟨c3.1, by omega⟩), if_pos c3.1, if_pos c3.2, if_pos c3]
          rfl
        · rw [if_neg (fun h => c3 ⟨(of_decide_eq_true h).1, by have := (of_decide_eq_true h).2; omega⟩), if_neg c3]
      rw [hk]
      simp only [Option.bind_some]
      exact state_tail _
  · rw [if_neg c1, if_neg c1]
theorem impl_StateOf_some (a : List S71) (b : List S111) (c : List S115) (st : List Int) (ns : List ByteArray) (vs : List Int) (x : Int) (h0 : a.length ≤ 1048576) (h1 : st.length ≤ 1048576) : impl_StateOf.f a b c st ns vs x = some (stateP a st x) := by
  unfold impl_StateOf.f stateP
  by_cases c1 : x = 0
  · rw [if_pos c1, if_pos c1]
    by_cases c2 : st = []
    · rw [if_pos ((nil_length st).2 c2), if_pos c2]
    · have c2' : ¬ (st.length : Int) = 0 := fun h => c2 ((nil_length st).1 h)
      rw [if_neg c2', if_neg c2]
      have hk : ∃ p, impl_comesNext.f a b c st ns vs x = some (kindS a st, p) := by
        unfold impl_comesNext.f kindS impl_isNode.f
        rw [if_neg c2', if_neg c2, w64 (x := (st.length : Int) - 1) (by omega) (by omega), w64 (x := (a.length : Int) - 1) (by omega) (by omega), if_pos (by omega), if_pos (by omega), within_some]
        simp only [Option.bind_some]
        by_cases c3 : 0 ≤ rd st ((st.length : Int) - 1) ∧ rd st ((st.length : Int) - 1) < a.length
        · rw [if_pos (decide_eq_true ⟨c3.1, by omega⟩), if_pos c3.1, if_pos c3.2, if_pos c3]
          exact ⟨_, rfl⟩
        · rw [if_neg (fun h => c3 ⟨(of_decide_eq_true h).1, by have := (of_decide_eq_true h).2; omega⟩), if_neg c3]
          exact ⟨_, rfl⟩
      obtain ⟨p, hk⟩ := hk
      rw [hk]
      simp only [Option.bind_some]
      exact state_tail _
  · rw [if_neg c1, if_neg c1]

def finP (t : List Int) (ns : List ByteArray) (vs : List Int) (f : Int) : List Int × List ByteArray × List Int × Int := (t, ns, vs, if (t.length : Int) > 200 then 4 else f)
theorem ev_fin (t : List Int) (ns : List ByteArray) (vs : List Int) (f : Int) : Ev (fun _ => if (t.length : Int) > 200 then some (t, ns, vs, (4 : Int)) else some (t, ns, vs, f)) (finP t ns vs f) := by
  unfold finP
  refine ev_ite (fun c => ?_) (fun c => ?_)
  · rw [if_pos c]
    exact ev_ret _
  · rw [if_neg c]
    exact ev_ret _
theorem l11Do_l0 (ks : List Int) (ns : List ByteArray) (vs : List Int) (x c0 c1 : Int) (c2 c3 c4 : ByteArray) (hk : ks.length ≤ 1048576) : ∀ (n : Nat) (t : List Int), n ≤ ks.length → t.length + n ≤ 4194304 →
    Ev (fun k => spec_l11Do.l0 k ((n : Int) - 1) t ns vs x c0 c1 c2 c3 c4 ks) (finP (t ++ (ks.take n).reverse) ns vs x)
  | 0, t, h, ht => by
    refine ev_step ?_
    simp only [spec_l11Do.l0]
    rw [List.take_zero, List.reverse_nil, List.append_nil]
    exact ev_neg (by omega) (ev_fin t ns vs x)
  | n + 1, t, h, ht => by
    refine ev_step ?_
    simp only [spec_l11Do.l0]
    rw [show ((n + 1 : Nat) : Int) - 1 = (n : Int) by omega, w64 (x := (n : Int) - 1) (by omega) (by omega)]
    have ih := l11Do_l0 ks ns vs x c0 c1 c2 c3 c4 hk n (t ++ [rd ks n]) (by omega) (by simp; omega)
    have e := take_rd (0 : Int) (l := ks) (i := (n : Int)) (by omega) (by omega)
    rw [show ((n : Int) + 1).toNat = n + 1 by omega, show ((n : Int)).toNat = n by omega] at e
    rw [List.append_assoc] at ih
    rw [e, List.reverse_append]
    exact ev_pos (by omega) (ev_pos (by omega) (ev_pos (by omega) (ev_pos (by omega) ih)))
/-- What comes of a thread whose node's value is v. -/
def doP (X : S71) (at_ : Int) (st : List Int) (ns : List ByteArray) (vs : List Int) (x : Int) (v : Int × Int) : List Int × List ByteArray × List Int × Int :=
  if X.f0 = 11 then (if v.2 = 0 then finP (pastP st) ns (putV X.f2 v.1 ns vs) x else (st, ns, vs, v.2))
  else if X.f0 = 12 then (if v.2 = 0 then (if v.1 = 0 then (if (X.f5.length : Int) > 2 then finP (pastP st ++ [rd X.f5 2]) ns vs x else finP (pastP st) ns vs x) else finP (pastP st ++ [rd X.f5 1]) ns vs x) else (st, ns, vs, v.2))
  else if X.f0 = 13 then (if v.2 = 0 then (if v.1 = 0 then finP (pastP st) ns vs x else finP (pastP st ++ [at_, rd X.f5 1]) ns vs x) else (st, ns, vs, v.2))
  else if X.f0 = 20 then finP (pastP st ++ X.f5.reverse) ns vs x
  else finP (pastP st) ns vs x
theorem l11Do_ev (a : List S71) (b : List S111) (c : List S115) (st : List Int) (ns : List ByteArray) (vs : List Int) (x : Int) (v : Int × Int) (ha : fitN a) (h1 : st.length ≤ 1048576) (hn : ns.length ≤ 1048576) (hvs : vs.length ≤ 1048576) (h0 : 0 < st.length) (X : S71) (hX : X = rdOf z71 a (rd st ((st.length : Int) - 1)))
    (g0 : 0 ≤ rd st ((st.length : Int) - 1)) (g1 : rd st ((st.length : Int) - 1) < a.length) (hl : X.f5.length ≤ 1048576)
    (s1 : X.f0 = 11 → 1 ≤ X.f5.length) (s2 : X.f0 = 12 ∨ X.f0 = 13 → 2 ≤ X.f5.length)
    (hv : X.f0 = 11 ∨ X.f0 = 12 ∨ X.f0 = 13 → Ev (fun k => spec_ValueOf.f k a b c (rd X.f5 0) ns vs) v) :
    Ev (fun k => spec_l11Do.f k a b c st ns vs x) (doP X (rd st ((st.length : Int) - 1)) st ns vs x v) := by
  have E : ∀ i, rd_T71 a i = rdOf z71 a i := fun _ => rfl
  have e1 : wrap64 ((st.length : Int) - 1) = (st.length : Int) - 1 := w64 (by omega) (by omega)
  have e2 : st.take ((st.length : Int) - 1).toNat = pastP st := by
    unfold pastP
    rw [show ((st.length : Int) - 1).toNat = st.length - 1 by omega]
  have hp := pastP_length st
  unfold spec_l11Do.f
  simp only [E, e1, e2, ← hX, Option.bind_some]
  refine ev_pos (by omega) (ev_pos (by omega) (ev_pos g0 (ev_pos g1 ?_)))
  unfold doP
  by_cases t1 : X.f0 = 11
  · have := s1 t1
    rw [if_pos t1]
    refine ev_pos t1 (ev_pos (by omega) (Ev.bind (hv (by omega)) (ev_ite (fun c => ?_) (fun c => ?_))))
    · rw [if_pos c]
      exact ev_pos (by omega) (Ev.bind (spec_PutIn_ev ns vs X.f2 v.1 hn hvs) (ev_fin _ _ _ _))
    · rw [if_neg c]
      exact ev_ret _
  · rw [if_neg t1]
    refine ev_neg t1 ?_
    by_cases t2 : X.f0 = 12
    · have := s2 (by omega)
      rw [if_pos t2]
      refine ev_pos t2 (ev_pos (by omega) (Ev.bind (hv (by omega)) (ev_ite (fun c => ?_) (fun c => ?_))))
      · rw [if_pos c]
        refine ev_pos (by omega) (ev_ite (fun d => ?_) (fun d => ?_))
        · rw [if_pos d]
          refine ev_ite (fun q => ?_) (fun q => ?_)
          · rw [show (if (X.f5.length : Int) > 2 then finP (pastP st ++ [rd X.f5 2]) ns vs x else finP (pastP st) ns vs x) = finP (pastP st ++ [rd X.f5 2]) ns vs x from if_pos q]
            exact ev_pos (by omega) (ev_pos (by omega) (ev_fin _ _ _ _))
          · rw [show (if (X.f5.length : Int) > 2 then finP (pastP st ++ [rd X.f5 2]) ns vs x else finP (pastP st) ns vs x) = finP (pastP st) ns vs x from if_neg q]
            exact ev_fin _ _ _ _
        · rw [if_neg d]
          exact ev_pos (by omega) (ev_pos (by omega) (ev_fin _ _ _ _))
      · rw [if_neg c]
        exact ev_ret _
    · rw [if_neg t2]
      refine ev_neg t2 ?_
      by_cases t3 : X.f0 = 13
      · have := s2 (by omega)
        rw [if_pos t3]
        refine ev_pos t3 (ev_pos (by omega) (Ev.bind (hv (by omega)) (ev_ite (fun c => ?_) (fun c => ?_))))
        · rw [if_pos c]
          refine ev_pos (by omega) (ev_ite (fun d => ?_) (fun d => ?_))
          · rw [if_pos d]
            exact ev_fin _ _ _ _
          · rw [if_neg d]
            exact ev_pos (by omega) (ev_pos (by simp only [List.length_cons, List.length_nil]; omega) (ev_fin _ _ _ _))
        · rw [if_neg c]
          exact ev_ret _
      · rw [if_neg t3]
        refine ev_neg t3 ?_
        by_cases t4 : X.f0 = 20
        · rw [if_pos t4]
          refine ev_pos t4 (ev_pos (by omega) ?_)
          have h := l11Do_l0 X.f5 ns vs x X.f0 X.f1 X.f2 X.f3 X.f4 hl X.f5.length (pastP st) (by omega) (by omega)
          rw [List.take_length] at h
          rw [w64 (x := (X.f5.length : Int) - 1) (by omega) (by omega)]
          exact h
        · rw [if_neg t4]
          exact ev_neg t4 (ev_pos (by omega) (ev_fin _ _ _ _))

theorem impl_Step_l0 (ks : List Int) (ns : List ByteArray) (vs : List Int) (x c0 c1 : Int) (c2 c3 c4 : ByteArray) (hk : ks.length ≤ 1048576) : ∀ (n : Nat) (t : List Int), n ≤ ks.length → t.length + n ≤ 4194304 →
    Ev (fun k => impl_StepThread.l0 k ((n : Int) - 1) t ns vs x c0 c1 c2 c3 c4 ks) (finP (t ++ (ks.take n).reverse) ns vs x)
  | 0, t, h, ht => by
    refine ev_step ?_
    simp only [impl_StepThread.l0]
    rw [List.take_zero, List.reverse_nil, List.append_nil]
    exact ev_neg (by omega) (ev_fin t ns vs x)
  | n + 1, t, h, ht => by
    refine ev_step ?_
    simp only [impl_StepThread.l0]
    rw [show ((n + 1 : Nat) : Int) - 1 = (n : Int) by omega, w64 (x := (n : Int) - 1) (by omega) (by omega)]
    have ih := impl_Step_l0 ks ns vs x c0 c1 c2 c3 c4 hk n (t ++ [rd ks n]) (by omega) (by simp; omega)
    have e := take_rd (0 : Int) (l := ks) (i := (n : Int)) (by omega) (by omega)
    rw [show ((n : Int) + 1).toNat = n + 1 by omega, show ((n : Int)).toNat = n by omega] at e
    rw [List.append_assoc] at ih
    rw [e, List.reverse_append]
    exact ev_pos (by omega) (ev_pos (by omega) (ev_pos (by omega) (ev_pos (by omega) ih)))
theorem impl_Step_j2 (X : S71) (at_ : Int) (st : List Int) (ns : List ByteArray) (vs : List Int) (x n : Int) (h1 : st.length ≤ 1048576) (hn : ns.length ≤ 1048576) (hvs : vs.length ≤ 1048576) (hl : X.f5.length ≤ 1048576)
    (s2 : X.f0 = 12 ∨ X.f0 = 13 → 2 ≤ X.f5.length) : Ev (fun k => impl_StepThread.j2 k at_ n st ns vs x X.f0 X.f1 X.f2 X.f3 X.f4 X.f5) (doP X at_ st ns vs x (n, 0)) := by
  have hp := pastP_length st
  refine ev_step ?_
  simp only [impl_StepThread.j2, Option.bind_some]
  refine Ev.bind (impl_Past_ev st ns vs x h1 hn hvs) ?_
  dsimp only
  unfold doP
  by_cases t1 : X.f0 = 11
  · rw [if_pos t1, if_pos rfl]
    exact ev_pos t1 (Ev.bind (impl_PutIn_ev ns vs X.f2 n hn hvs) (ev_fin _ _ _ _))
  · rw [if_neg t1]
    refine ev_neg t1 ?_
    by_cases t2 : X.f0 = 12
    · have := s2 (by omega)
      rw [if_pos t2, if_pos rfl]
      refine ev_pos t2 (ev_ite (fun d => ?_) (fun d => ?_))
      · rw [if_pos d]
        refine ev_ite (fun q => ?_) (fun q => ?_)
        · rw [show (if (X.f5.length : Int) > 2 then finP (pastP st ++ [rd X.f5 2]) ns vs x else finP (pastP st) ns vs x) = finP (pastP st ++ [rd X.f5 2]) ns vs x from if_pos q]
          exact ev_pos (by omega) (ev_pos (by omega) (ev_fin _ _ _ _))
        · rw [show (if (X.f5.length : Int) > 2 then finP (pastP st ++ [rd X.f5 2]) ns vs x else finP (pastP st) ns vs x) = finP (pastP st) ns vs x from if_neg q]
          exact ev_fin _ _ _ _
      · rw [if_neg d]
        exact ev_pos (by omega) (ev_pos (by omega) (ev_fin _ _ _ _))
    · rw [if_neg t2]
      refine ev_neg t2 ?_
      by_cases t3 : X.f0 = 13
      · have := s2 (by omega)
        rw [if_pos t3, if_pos rfl]
        refine ev_pos t3 (ev_ite (fun d => ?_) (fun d => ?_))
        · rw [if_pos d]
          exact ev_fin _ _ _ _
        · rw [if_neg d]
          exact ev_pos (by omega) (ev_pos (by simp only [List.length_cons, List.length_nil]; omega) (ev_fin _ _ _ _))
      · rw [if_neg t3]
        refine ev_neg t3 ?_
        by_cases t4 : X.f0 = 20
        · rw [if_pos t4]
          have h := impl_Step_l0 X.f5 ns vs x X.f0 X.f1 X.f2 X.f3 X.f4 hl X.f5.length (pastP st) (by omega) (by omega)
          rw [List.take_length] at h
          rw [w64 (x := (X.f5.length : Int) - 1) (by omega) (by omega)]
          exact ev_pos t4 h
        · rw [if_neg t4]
          exact ev_neg t4 (ev_fin _ _ _ _)
theorem finP_length (t : List Int) (ns : List ByteArray) (vs : List Int) (f : Int) : (finP t ns vs f).1 = t ∧ (finP t ns vs f).2.1 = ns ∧ (finP t ns vs f).2.2.1 = vs ∧ ((finP t ns vs f).2.2.2 = 0 → t.length ≤ 200) := by
  refine ⟨rfl, rfl, rfl, fun h => ?_⟩
  unfold finP at h
  by_cases c : (t.length : Int) > 200
  · simp only [if_pos c] at h
    exact absurd h (by decide)
  · omega
/-- What is known of a thread behind a step. -/
def behind (r : List Int × List ByteArray × List Int × Int) (n m : Nat) : Prop := r.1.length ≤ 2097152 ∧ r.2.1.length = n ∧ r.2.2.1.length = m ∧ (r.2.2.2 = 0 → r.1.length ≤ 1048576)
theorem behind_fin {t : List Int} {ns : List ByteArray} {vs : List Int} {f : Int} {n m : Nat} (h : t.length ≤ 2097152) (h1 : ns.length = n) (h2 : vs.length = m) : behind (finP t ns vs f) n m := by
  obtain ⟨e1, e2, e3, e4⟩ := finP_length t ns vs f
  exact ⟨by rw [e1]; exact h, by rw [e2]; exact h1, by rw [e3]; exact h2, fun q => by have := e4 q; rw [e1]; omega⟩
theorem doP_behind (X : S71) (at_ : Int) (st : List Int) (ns : List ByteArray) (vs : List Int) (x : Int) (v : Int × Int) (h1 : st.length ≤ 1048576) (hl : X.f5.length ≤ 1048576) : behind (doP X at_ st ns vs x v) ns.length vs.length := by
  have hp := pastP_length st
  have same : behind (st, ns, vs, v.2) ns.length vs.length := ⟨by show st.length ≤ _; omega, rfl, rfl, fun _ => h1⟩
  unfold doP
  split
  · split
    · exact behind_fin (by omega) rfl (putV_length _ _ _ _)
    · exact same
  · split
    · split
      · split
        · split
          · exact behind_fin (by simp; omega) rfl rfl
          · exact behind_fin (by omega) rfl rfl
        · exact behind_fin (by simp; omega) rfl rfl
      · exact same
    · split
      · split
        · split
          · exact behind_fin (by omega) rfl rfl
          · exact behind_fin (by simp; omega) rfl rfl
        · exact same
      · split
        · exact behind_fin (by simp; omega) rfl rfl
        · exact behind_fin (by omega) rfl rfl
theorem spec_l11Copy_some (a : List Int) (ns : List ByteArray) (vs : List Int) (st : Int) (h0 : a.length ≤ 2097152) (h1 : ns.length ≤ 1048576) (h2 : vs.length ≤ 1048576) : spec_l11Copy.f a ns vs st = some (a, ns, vs, st) := by
  unfold spec_l11Copy.f spec_l10Copy.f
  simp only [Option.bind_some]
  rw [if_pos (by simp; omega), if_pos (by simp; omega), if_pos (by simp; omega)]
  simp
theorem impl_copyThread_some (a : List Int) (ns : List ByteArray) (vs : List Int) (st : Int) (h0 : a.length ≤ 2097152) (h1 : ns.length ≤ 1048576) (h2 : vs.length ≤ 1048576) : impl_copyThread.f a ns vs st = some (a, ns, vs, st) := by
  unfold impl_copyThread.f impl_copyEnv.f
  rw [if_pos (by simp; omega), if_pos (by simp; omega), if_pos (by simp; omega)]
  simp
theorem spec_StateOf_bad (a : List S71) (b : List S111) (c : List S115) (st : List Int) (ns : List ByteArray) (vs : List Int) (x : Int) (h : x ≠ 0) : spec_StateOf.f a b c st ns vs x = some 3 := by
  unfold spec_StateOf.f
  rw [if_neg h]
theorem impl_StateOf_bad (a : List S71) (b : List S111) (c : List S115) (st : List Int) (ns : List ByteArray) (vs : List Int) (x : Int) (h : x ≠ 0) : impl_StateOf.f a b c st ns vs x = some 3 := by
  unfold impl_StateOf.f
  rw [if_neg h]
/-- A thread that may not go on. -/
theorem l11Step_stays (a : List S71) (b : List S111) (c : List S115) (st : List Int) (ns : List ByteArray) (vs : List Int) (x t : Int) (h : spec_StateOf.f a b c st ns vs x = some t) (ht : t ≠ 0) : Ev (fun k => spec_l11Step.f k a b c st ns vs x) (false, st, ns, vs, x) := by
  unfold spec_l11Step.f
  exact ev_bindc h (ev_neg ht (ev_ret _))
/-- A thread that may go on: both do the same. -/
theorem l11Step_goes (a : List S71) (b : List S111) (c : List S115) (st : List Int) (ns : List ByteArray) (vs : List Int) (x : Int) (ha : fitN a) (h1 : st.length ≤ 1048576) (hn : ns.length ≤ 1048576) (hvs : vs.length ≤ 1048576) (ht : stateP a st x = 0) :
    ∃ r, Ev (fun k => spec_l11Step.f k a b c st ns vs x) (true, r) ∧ Ev (fun k => impl_StepThread.f k a b c st ns vs x) r ∧ behind r ns.length vs.length := by
  have E : ∀ i, rd_T71 a i = rdOf z71 a i := fun _ => rfl
  have h0 := ha.1
  have hx : x = 0 := by
    unfold stateP at ht
    split at ht
    · assumption
    · omega
  have hs : 0 < st.length := by
    cases st with
    | nil =>
      unfold stateP at ht
      rw [if_pos hx, if_pos rfl] at ht
      omega
    | cons _ _ => simp
  have e1 : wrap64 ((st.length : Int) - 1) = (st.length : Int) - 1 := w64 (by omega) (by omega)
  have hso := spec_StateOf_some a b c st ns vs x h0 h1
  have hio := impl_StateOf_some a b c st ns vs x h0 h1
  rw [ht] at hso hio
  have hcp := impl_copyThread_some st ns vs x (by omega) hn hvs
  unfold spec_l11Step.f impl_StepThread.f
  simp only [E, e1]
  have hat : ∃ at_, at_ = rd st ((st.length : Int) - 1) := ⟨_, rfl⟩
  obtain ⟨at_, hat⟩ := hat
  have hsn := spec_NodeOk_ev a b c at_ ha
  have hin := impl_NodeOk_ev a b c at_ ha
  have bad : behind (st, ns, vs, (4 : Int)) ns.length vs.length := ⟨by show st.length ≤ _; omega, rfl, rfl, fun _ => h1⟩
  have j0t : Ev (fun k => impl_StepThread.j0 k at_ true a b c st ns vs x st ns vs x) (st, ns, vs, 4) := by
    refine ev_step ?_
    simp only [impl_StepThread.j0]
    exact ev_pos (by simp) (ev_ret _)
  rw [← hat]
  by_cases hk : nodeP a at_ = true
  · obtain ⟨⟨g0, g1⟩, _⟩ := node_ahead a at_ hk
    obtain ⟨hK, hS, hN⟩ := node_parts a at_ hk
    have hmem : rdOf z71 a at_ ∈ a := rdOf_mem g0 g1
    have hl := (ha.2 _ hmem).2.2.2
    rw [hk] at hsn hin
    by_cases hv : isV (rdOf z71 a at_).f0 = true
    · refine ⟨(st, ns, vs, 4), ?_, ?_, bad⟩
      · exact ev_bindc hso (ev_pos rfl (ev_pos (by omega) (ev_pos (by omega) (Ev.bind hsn (ev_pos rfl (ev_pos g0 (ev_pos g1 (ev_bindc (isV_l01 _) (ev_pos hv (ev_ret _))))))))))
      · exact ev_bindc hcp (ev_bindc hio (ev_pos rfl (ev_pos (by omega) (ev_pos (by omega) (Ev.bind hin (ev_pos rfl (ev_bindc (isValue_some a b c at_ h0 g0 g1) (by rw [hv]; exact j0t))))))))
    · have hv' : isV (rdOf z71 a at_).f0 = false := by simpa using hv
      obtain ⟨X, hX⟩ : ∃ X, X = rdOf z71 a at_ := ⟨_, rfl⟩
      rw [← hX] at hl hv' hS hK
      have s1 : X.f0 = 11 → 1 ≤ X.f5.length := by
        intro t
        obtain ⟨y, hy, _⟩ := shape_one a at_ _ _ hS (by omega)
        rw [hy]
        simp
      have s2 : X.f0 = 12 ∨ X.f0 = 13 → 2 ≤ X.f5.length := by
        intro t
        unfold shapeP at hS
        rw [if_neg (by omega), if_neg (by omega), if_neg (by omega)] at hS
        rcases t with t | t
        · rw [if_pos t] at hS
          simp only [Bool.and_eq_true, decide_eq_true_iff] at hS
          have := hS.1
          omega
        · rw [if_neg (by omega), if_pos t] at hS
          simp only [Bool.and_eq_true, decide_eq_true_iff] at hS
          have := hS.1
          omega
      obtain ⟨v, v1, v2⟩ := ValueOf_ev a b c (rd X.f5 0) ns vs ha hn
      have hdo := l11Do_ev a b c st ns vs x v ha h1 hn hvs hs X (by rw [← hat]; exact hX) (by rw [← hat]; exact g0) (by rw [← hat]; exact g1) hl s1 s2 (fun _ => v1)
      rw [← hat] at hdo
      refine ⟨doP X at_ st ns vs x v, ?_, ?_, doP_behind X at_ st ns vs x v h1 hl⟩
      · refine ev_bindc hso (ev_pos rfl (ev_pos (by omega) (ev_pos (by omega) (Ev.bind hsn (ev_pos rfl (ev_pos g0 (ev_pos g1 (ev_bindc (isV_l01 _) (ev_neg ?_ (Ev.bind hdo (ev_ret _))))))))))) 
        rw [← hX, hv']
        decide
      · have j2 := fun n => impl_Step_j2 X at_ st ns vs x n h1 hn hvs hl s2
        have j1t : 1 ≤ X.f5.length → Ev (fun k => impl_StepThread.j1 k at_ 0 true a b c st ns vs x st ns vs x X.f0 X.f1 X.f2 X.f3 X.f4 X.f5) (if v.2 = 0 then doP X at_ st ns vs x (v.1, 0) else (st, ns, vs, v.2)) := by
          intro q
          refine ev_step ?_
          simp only [impl_StepThread.j1]
          refine ev_pos (by simp) (ev_pos (by omega) (Ev.bind v2 (ev_ite (fun d => ?_) (fun d => ?_))))
          · rw [if_pos d]
            exact j2 _
          · rw [if_neg d]
            exact ev_ret _
        have j1f : Ev (fun k => impl_StepThread.j1 k at_ 0 false a b c st ns vs x st ns vs x X.f0 X.f1 X.f2 X.f3 X.f4 X.f5) (doP X at_ st ns vs x (0, 0)) := by
          refine ev_step ?_
          simp only [impl_StepThread.j1]
          exact ev_neg (by simp) (j2 _)
        have vz : v.2 = 0 → (v.1, (0 : Int)) = v := fun d => by
          rw [← d]
        refine ev_bindc hcp (ev_bindc hio (ev_pos rfl (ev_pos (by omega) (ev_pos (by omega) (Ev.bind hin (ev_pos rfl (ev_bindc (isValue_some a b c at_ h0 g0 g1) ?_)))))))
        rw [← hX, hv']
        refine ev_step ?_
        simp only [impl_StepThread.j0, E, ← hX]
        refine ev_neg (by simp) (ev_pos g0 (ev_pos g1 ?_))
        by_cases t1 : X.f0 = 11
        · refine ev_pos t1 (ev_eq ?_ (j1t (s1 t1)))
          unfold doP
          rw [if_pos t1, if_pos t1, if_pos rfl]
        · refine ev_neg t1 ?_
          by_cases t2 : X.f0 = 12
          · refine ev_pos t2 (ev_eq ?_ (j1t (by have := s2 (by omega); omega)))
            unfold doP
            rw [if_neg t1, if_pos t2, if_neg t1, if_pos t2, if_pos rfl]
          · refine ev_neg t2 ?_
            by_cases t3 : X.f0 = 13
            · rw [show (X.f0 == 13) = true by simpa using t3]
              refine ev_eq ?_ (j1t (by have := s2 (by omega); omega))
              unfold doP
              rw [if_neg t1, if_neg t2, if_pos t3, if_neg t1, if_neg t2, if_pos t3, if_pos rfl]
            · rw [show (X.f0 == 13) = false by simpa using t3]
              refine ev_eq ?_ j1f
              unfold doP
              rw [if_neg t1, if_neg t2, if_neg t3, if_neg t1, if_neg t2, if_neg t3]
  · have hk' : nodeP a at_ = false := by simpa using hk
    rw [hk'] at hsn hin
    refine ⟨(st, ns, vs, 4), ?_, ?_, bad⟩
    · exact ev_bindc hso (ev_pos rfl (ev_pos (by omega) (ev_pos (by omega) (Ev.bind hsn (ev_neg (by simp) (ev_ret _))))))
    · exact ev_bindc hcp (ev_bindc hio (ev_pos rfl (ev_pos (by omega) (ev_pos (by omega) (Ev.bind hin (ev_neg (by simp) j0t))))))

theorem StepThread_ev (a : List S71) (b : List S111) (c : List S115) (st : List Int) (ns : List ByteArray) (vs : List Int) (x : Int) (ha : fitN a) (h1 : st.length ≤ 1048576) (hn : ns.length ≤ 1048576) (hvs : vs.length ≤ 1048576) :
    ∃ r, Ev (fun k => spec_StepThread.f k a b c st ns vs x) r ∧ Ev (fun k => impl_StepThread.f k a b c st ns vs x) r ∧ behind r ns.length vs.length := by
  have hcs := spec_l11Copy_some st ns vs x (by omega) hn hvs
  unfold spec_StepThread.f
  by_cases ht : stateP a st x = 0
  · obtain ⟨r, r1, r2, r3⟩ := l11Step_goes a b c st ns vs x ha h1 hn hvs ht
    exact ⟨r, ev_bindc hcs (Ev.bind r1 (ev_ret _)), r2, r3⟩
  · refine ⟨(st, ns, vs, x), ev_bindc hcs (Ev.bind (l11Step_stays a b c st ns vs x _ (spec_StateOf_some a b c st ns vs x ha.1 h1) ht) (ev_ret _)), ?_, ⟨by show st.length ≤ _; omega, rfl, rfl, fun _ => h1⟩⟩
    unfold impl_StepThread.f
    exact ev_bindc (impl_copyThread_some st ns vs x (by omega) hn hvs) (ev_bindc (impl_StateOf_some a b c st ns vs x ha.1 h1) (ev_neg ht (ev_ret _)))

theorem FnExactStepThread : Go.Proofs.YtjjhknklnclokaaGreat.OpnFnExactStepThread.Pure := by
  intro pa pb pc st ns vs x ga gb gc ⟨h0, _⟩ ⟨h1, h2⟩ ⟨h3, _⟩ _
  refine Ev.rounds ?_
  unfold laws_FnExactStepThread.f
  obtain ⟨r, hr, hrle, hrx⟩ := szProgram_ev pa pb pc ga gb gc 1048576 (by omega) (by omega)
  refine Ev.bind hr ?_
  by_cases c : r < 0
  · exact ev_pos c (ev_ret _)
  · refine ev_neg c ?_
    have hp := hrx (by omega)
    obtain ⟨q, hq, _, hx⟩ := szThread_ev st ns vs x h0 h1 h2 h3 r (by omega) (by omega)
    refine Ev.bind hq ?_
    by_cases c2 : q < 0
    · exact ev_pos c2 (ev_ret _)
    · obtain ⟨e0, e1, _, e3⟩ := hx (by omega)
      have hf := fitN_of pa hp.1
      have tp := toProgram_ev pa pb pc hp
      have tt := toThread_ev st ns vs x (by omega) (by omega) (by omega)
      have ep := eqProgram_ev pa pb pc hp
      have et := eqThread_ev st ns vs x (by omega) (by omega) (by omega)
      obtain ⟨g, g0, g1, mk⟩ := markOk_x pa pb pc hp
      generalize pa.map cNode = a at hf tp ep mk
      generalize pb.map cMonitor = b at tp ep mk
      generalize pc.map cProcess = c at tp ep mk
      obtain ⟨⟨t, n, v, f⟩, hs, hi, k0, k1, k2, _⟩ := StepThread_ev a b c st ns vs x hf (by omega) (by omega) (by omega)
      dsimp only at k0 k1 k2
      have hmt := markThread_ev st ns vs x g (by omega) (by omega) (by omega) (by omega) (by omega)
      have he := eqThread_ev t n v f (by omega) (by omega) (by omega)
      have hm := markThread_ev t n v f 1 (by omega) (by omega) (by omega) (by omega) (by omega)
      have hh := heldThread_ev t.length n.length v.length f 1 (by omega) (by omega) (by omega) (by omega) (by omega)
      refine ev_neg c2 (Ev.bind tp (Ev.bind tt (Ev.bind hs (Ev.bind tp (Ev.bind tt (Ev.bind hi (Ev.bind he (ev_pos rfl (Ev.bind tp (Ev.bind ep (ev_pos rfl (Ev.bind tt (Ev.bind et (ev_pos rfl (Ev.bind mk (Ev.bind hmt (ev_neg (by dsimp only; omega) (Ev.bind he ?_))))))))))))))))))
      refine ev_step ?_
      simp only [laws_FnExactStepThread.j0]
      exact ev_neg (by simp) (Ev.bind hm (Ev.bind hh (ev_neg (by omega) (ev_pos rfl (Ev.bind tp (Ev.bind tt (Ev.bind hi (Ev.bind he (ev_pos rfl (Ev.bind hh (ev_neg (by omega) (ev_pos rfl (ev_ret _)))))))))))))

end Go.Proofs.YtjjhknklnclokaaGreat.Pure
