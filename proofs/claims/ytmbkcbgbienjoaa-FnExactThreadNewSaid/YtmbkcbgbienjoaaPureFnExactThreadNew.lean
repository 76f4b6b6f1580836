/- The program's ThreadNew answers as the reference's at every program, number and list of names, leaves its arguments as they were, and its answer owns its memory. No condition beyond the law's own bound. -/
import Derived.Test.YtmbkcbgbienjoaaOpnFnExactThreadNew
set_option linter.unusedVariables false
set_option linter.unusedSimpArgs false
namespace Go.Proofs.Ytmbkcbgbienjoaa.Pure
open Go.RowKit Go.Proofs.Ytmbkcbgbienjoaa.PFnExactThreadNew Go.Proofs.YtmbkcbgbienjoaaW.PrintWords Go.Proofs.YtmbkcbgbienjoaaW.PrintLast Go.Proofs.YtmbkcbgbienjoaaW.PrintMore Go.Proofs.Ytmbkcbgbienjoaa.Opn Go.Proofs.Ytmbkcbgbienjoaa.OpnFnExactThreadNew

theorem w64 {x : Int} (h0 : -9223372036854775808 ≤ x) (h1 : x ≤ 9223372036854775807) : wrap64 x = x := by
  unfold wrap64
  omega
theorem wf_i64 {x : Int} (h : (Lit.int .i64 x).wf = true) : -9223372036854775808 ≤ x ∧ x ≤ 9223372036854775807 := by
  simp [Lit.wf, IntKind.min, IntKind.max, IntKind.signed, IntKind.bits] at h
  omega

instance lawBA : LawfulBEq ByteArray where
  eq_of_beq {a b} h := by
    cases a
    cases b
    congr 1
    exact eq_of_beq (α := Array UInt8) h
  rfl {a} := by
    cases a
    exact BEq.rfl (α := Array UInt8)

/-! Rounds -/
theorem ev_step {α : Type} {g : Nat → Option α} {r : α} (h : Ev (fun k => g (k + 1)) r) : Ev g r := Ev.step (fun _ => rfl) h
theorem ev_ret {α : Type} (r : α) : Ev (fun _ => some r) r := ⟨0, fun _ _ => rfl⟩
theorem ev_pos {α : Type} {c : Prop} [Decidable c] {g f : Nat → Option α} {r : α} (h : c) (k : Ev g r) : Ev (fun n => if c then g n else f n) r :=
  Ev.congr (fun _ => if_pos h) k
theorem ev_neg {α : Type} {c : Prop} [Decidable c] {g f : Nat → Option α} {r : α} (h : ¬ c) (k : Ev f r) : Ev (fun n => if c then g n else f n) r :=
  Ev.congr (fun _ => if_neg h) k
theorem ev_bindc {α β : Type} {x : Option α} {f : Nat → α → Option β} {a : α} {r : β} (h : x = some a) (k : Ev (fun n => f n a) r) : Ev (fun n => x.bind (f n)) r := by
  subst h
  exact k
theorem ev_rpos {α : Type} {c : Prop} [Decidable c] {g : Nat → Option α} {a b : α} (h : c) (k : Ev g a) : Ev g (if c then a else b) := by
  rw [if_pos h]
  exact k
theorem ev_rneg {α : Type} {c : Prop} [Decidable c] {g : Nat → Option α} {a b : α} (h : ¬ c) (k : Ev g b) : Ev g (if c then a else b) := by
  rw [if_neg h]
  exact k
theorem ev_eq {α : Type} {g : Nat → Option α} {r r' : α} (h : r = r') (k : Ev g r) : Ev g r' := h ▸ k

/-! Lists and texts as lists of numbers -/
def bs (s : ByteArray) : List Int := s.data.toList.map fun c => (c.toNat : Int)
theorem bs_length (s : ByteArray) : (bs s).length = s.size := by
  unfold bs
  rw [List.length_map, Array.length_toList]
  rfl
theorem bs_range {s : ByteArray} {x : Int} (h : x ∈ bs s) : 0 ≤ x ∧ x < 256 := by
  unfold bs at h
  obtain ⟨c, _, rfl⟩ := List.mem_map.1 h
  have := c.toNat_lt
  omega
theorem bs_inj {a b : ByteArray} (h : bs a = bs b) : a = b := by
  have h2 : a.data.toList = b.data.toList := by
    have h3 := congrArg (List.map fun n : Int => UInt8.ofNat n.toNat) h
    unfold bs at h3
    rw [List.map_map, List.map_map] at h3
    have e : ∀ l : List UInt8, l.map ((fun n : Int => UInt8.ofNat n.toNat) ∘ fun c => (c.toNat : Int)) = l := by
      intro l
      induction l with
      | nil => rfl
      | cons c l ih =>
        rw [List.map_cons, ih]
        simp
    rwa [e, e] at h3
  cases a
  cases b
  congr 1
  exact Array.toList_inj.1 h2
theorem toList_eq_iff {a b : ByteArray} : a.toList = b.toList ↔ a = b := by
  constructor
  · intro h
    rw [ByteArray.toList_eq, ByteArray.toList_eq] at h
    cases a
    cases b
    congr 1
    exact Array.toList_inj.1 h
  · rintro rfl
    rfl
theorem drop_rd {α : Type} {d : α} {l : List α} {i : Int} (h0 : 0 ≤ i) (h1 : i < l.length) : l.drop i.toNat = rdOf d l i :: l.drop (i + 1).toNat := by
  have h2 : i.toNat < l.length := by omega
  rw [List.drop_eq_getElem_cons h2]
  unfold rdOf
  rw [List.getD_eq_getElem?_getD, List.getElem?_eq_getElem h2, show (i + 1).toNat = i.toNat + 1 by omega]
  rfl
theorem drop_end {α : Type} {l : List α} {i : Int} (h0 : 0 ≤ i) (h1 : ¬ i < l.length) : l.drop i.toNat = [] := List.drop_eq_nil_of_le (by omega)
theorem bs_rd {s : ByteArray} {i : Int} (h0 : 0 ≤ i) (h1 : i < s.size) : rdOf 0 (bs s) i = bt s i := by
  have h2 : i.toNat < s.size := by omega
  have h3 : i.toNat < s.data.toList.length := by
    rw [Array.length_toList]
    exact h2
  unfold rdOf bs bt
  rw [List.getD_eq_getElem?_getD, List.getElem?_map, List.getElem?_eq_getElem h3, dif_pos h2]
  rfl
theorem bs_drop {s : ByteArray} {i : Int} (h0 : 0 ≤ i) (h1 : i < s.size) : (bs s).drop i.toNat = bt s i :: (bs s).drop (i + 1).toNat := by
  rw [drop_rd (d := 0) h0 (by rw [bs_length]; exact h1), bs_rd h0 h1]
theorem bs_end {s : ByteArray} {i : Int} (h0 : 0 ≤ i) (h1 : ¬ i < s.size) : (bs s).drop i.toNat = [] := drop_end h0 (by rw [bs_length]; exact h1)
theorem strOf_bs (s : ByteArray) : strOfNums (bs s) = s := by
  have e : (bs s).map (fun n => UInt8.ofNat n.toNat) = s.data.toList := by
    unfold bs
    rw [List.map_map]
    conv => rhs; rw [← List.map_id s.data.toList]
    exact List.map_congr_left fun c _ => by simp
  unfold strOfNums
  rw [e]
theorem bs_strOf {l : List Int} (h : ∀ x ∈ l, 0 ≤ x ∧ x < 256) : bs (strOfNums l) = l := by
  unfold bs strOfNums
  rw [List.map_map]
  conv => rhs; rw [← List.map_id l]
  refine List.map_congr_left fun x hx => ?_
  obtain ⟨h0, h1⟩ := h x hx
  simp only [Function.comp_apply, UInt8.toNat_ofNat', id_eq]
  omega
theorem bs_append (a b : ByteArray) : bs (a ++ b) = bs a ++ bs b := by simp [bs]
theorem strOf_append (a b : List Int) : strOfNums (a ++ b) = strOfNums a ++ strOfNums b := by
  cases h : strOfNums a ++ strOfNums b
  rename_i d
  have := congrArg ByteArray.data h
  simp only [ByteArray.data_append] at this
  unfold strOfNums at this ⊢
  simp only [← this]
  simp
theorem ev_id {α : Type} {g : Nat → Option α} {r : α} (h : ∀ k, g k = some r) : Ev g r := ⟨0, fun k _ => h k⟩

theorem set_take {α : Type} (l : List α) (i : Nat) (x : α) (h : i < l.length) : (l.set i x).take (i + 1) = l.take i ++ [x] := by
  apply List.ext_getElem?
  intro j
  rcases Nat.lt_trichotomy j i with hj | hj | hj
  · rw [List.getElem?_take_of_lt (by omega), List.getElem?_set_ne (by omega), List.getElem?_append_left (by simp; omega), List.getElem?_take_of_lt hj]
  · subst hj
    rw [List.getElem?_take_of_lt (by omega), List.getElem?_set_self h, List.getElem?_append_right (by simp; omega)]
    simp [Nat.min_eq_left (Nat.le_of_lt h)]
  · rw [List.getElem?_eq_none (by simp; omega), List.getElem?_eq_none (by simp; omega)]
theorem take_rd {α : Type} (d : α) {l : List α} {i : Int} (h0 : 0 ≤ i) (h1 : i < l.length) : l.take (i + 1).toNat = l.take i.toNat ++ [rdOf d l i] := by
  have h2 : i.toNat < l.length := by omega
  rw [show (i + 1).toNat = i.toNat + 1 by omega, List.take_succ_eq_append_getElem h2]
  unfold rdOf
  rw [List.getD_eq_getElem?_getD, List.getElem?_eq_getElem h2]
  rfl
theorem rd_rdOf (l : List Int) (i : Int) : rd l i = rdOf 0 l i := rfl
theorem rdOf_mem {α : Type} {d : α} {l : List α} {i : Int} (h0 : 0 ≤ i) (h1 : i < l.length) : rdOf d l i ∈ l := by
  unfold rdOf
  rw [List.getD_eq_getElem?_getD, List.getElem?_eq_getElem (show i.toNat < l.length by omega)]
  exact List.getElem_mem _
/-- A copy made element by element, one round. -/
theorem copy_step {α : Type} (d : α) {src acc : List α} {i : Int} (h0 : 0 ≤ i) (h1 : i < src.length) (hl : acc.length = src.length) (ht : acc.take i.toNat = src.take i.toNat) :
    (acc.set i.toNat (rdOf d src i)).length = src.length ∧ (acc.set i.toNat (rdOf d src i)).take (i + 1).toNat = src.take (i + 1).toNat := by
  refine ⟨by simpa using hl, ?_⟩
  rw [take_rd d h0 h1, ← ht, show (i + 1).toNat = i.toNat + 1 by omega, set_take _ _ _ (by omega)]
theorem copy_end {α : Type} {src acc : List α} {i : Int} (h0 : 0 ≤ i) (h1 : ¬ i < src.length) (hl : acc.length = src.length) (ht : acc.take i.toNat = src.take i.toNat) : acc = src := by
  rw [List.take_of_length_le (by omega), List.take_of_length_le (by omega)] at ht
  exact ht

theorem szStringS_l0 (l : List ByteArray) (hl : l.length ≤ 1048576) (hs : ∀ x ∈ l, x.size ≤ 9223372036854775807) (n : Nat) : ∀ (left i : Int), 0 ≤ left → left ≤ 1048576 → 0 ≤ i → (l.length : Int) - i = n →
    ∃ r, Ev (fun k => laws_szStringS.l0 k l left i) r ∧ r ≤ left ∧ (0 ≤ r → ∀ x ∈ l.drop i.toNat, (x.size : Int) ≤ left) := by
  induction n with
  | zero =>
    intro left i h0 h1 hi hn
    refine ⟨left, ev_step ?_, Int.le_refl _, fun _ x hx => ?_⟩
    · simp only [laws_szStringS.l0]
      exact ev_neg (by omega) (ev_ret _)
    · rw [drop_end hi (by omega)] at hx
      cases hx
  | succ n ih =>
    intro left i h0 h1 hi hn
    have hz := hs _ (rdOf_mem (d := ByteArray.empty) (l := l) hi (by omega))
    rw [drop_rd (d := ByteArray.empty) (l := l) hi (by omega)]
    have step : ∀ r, Ev (fun k => if (wrap64 (left - ((rdOf ByteArray.empty l i).size : Int))) < 0 then (some (-1)) else (laws_szStringS.l0 k l (wrap64 (left - ((rdOf ByteArray.empty l i).size : Int))) (wrap64 (i + 1)))) r → Ev (fun k => laws_szStringS.l0 k l left i) r := by
      intro r h
      refine ev_step ?_
      simp only [laws_szStringS.l0]
      exact ev_pos (by omega) (ev_pos hi h)
    generalize rdOf ByteArray.empty l i = y at hz step ⊢
    rw [w64 (x := left - (y.size : Int)) (by omega) (by omega), w64 (x := i + 1) (by omega) (by omega)] at step
    by_cases c : left - (y.size : Int) < 0
    · exact ⟨-1, step _ (ev_pos c (ev_ret _)), by omega, fun h => by omega⟩
    · obtain ⟨r, hr, hle, hx⟩ := ih (left - y.size) (i + 1) (by omega) (by omega) (by omega) (by omega)
      refine ⟨r, step _ (ev_neg c hr), by omega, fun h x hm => ?_⟩
      rcases List.mem_cons.1 hm with rfl | hm
      · omega
      · have := hx h x hm
        omega
theorem szStringS_ev (l : List ByteArray) (hl : l.length ≤ 9223372036854775807) (hs : ∀ x ∈ l, x.size ≤ 9223372036854775807) (left : Int) (h0 : 0 ≤ left) (h1 : left ≤ 1048576) :
    ∃ r, Ev (fun k => laws_szStringS.f k l left) r ∧ r ≤ left ∧ (0 ≤ r → (l.length : Int) ≤ left ∧ ∀ x ∈ l, (x.size : Int) ≤ left) := by
  unfold laws_szStringS.f
  rw [w64 (x := left - (l.length : Int)) (by omega) (by omega)]
  by_cases c : left - (l.length : Int) < 0
  · exact ⟨-1, ev_pos c (ev_ret _), by omega, fun h => by omega⟩
  · obtain ⟨r, hr, hle, hx⟩ := szStringS_l0 l (by omega) hs l.length (left - l.length) 0 (by omega) (by omega) (by omega) (by omega)
    refine ⟨r, ev_neg c hr, by omega, fun h => ⟨by omega, fun x hm => ?_⟩⟩
    have := hx h x (by simpa using hm)
    omega

theorem szIntS_some (l : List Int) (hl : l.length ≤ 9223372036854775807) (left : Int) (h0 : 0 ≤ left) (h1 : left ≤ 1048576) :
    ∃ r, laws_szIntS.f l left = some r ∧ r ≤ left ∧ (0 ≤ r → (l.length : Int) ≤ left) := by
  unfold laws_szIntS.f
  rw [w64 (x := left - (l.length : Int)) (by omega) (by omega)]
  by_cases c : left - (l.length : Int) < 0
  · exact ⟨-1, if_pos c, by omega, fun h => by omega⟩
  · exact ⟨left - l.length, if_neg c, by omega, fun h => by omega⟩

def okNode (x : S113) : Prop := x.f2.size ≤ 1048576 ∧ x.f3.size ≤ 1048576 ∧ x.f4.size ≤ 1048576 ∧ x.f5.length ≤ 1048576
def okEntry (x : S143) : Prop := x.f0.size ≤ 1048576 ∧ x.f1.size ≤ 1048576
def okMonitor (x : S117) : Prop := x.f0.size ≤ 1048576 ∧ x.f1.length ≤ 1048576 ∧ (∀ s ∈ x.f1, s.size ≤ 1048576) ∧ x.f2.length ≤ 1048576 ∧ (∀ s ∈ x.f2, s.size ≤ 1048576) ∧ x.f3.length ≤ 1048576 ∧ ∀ e ∈ x.f3, okEntry e
def okProcess (x : S119) : Prop := x.f0.size ≤ 1048576 ∧ x.f1.length ≤ 1048576 ∧ (∀ s ∈ x.f1, s.size ≤ 1048576) ∧ x.f2.length ≤ 1048576 ∧ ∀ s ∈ x.f2, s.size ≤ 1048576
theorem szNode_ev (x : S113) (hg : G113 x) (left : Int) (h0 : 0 ≤ left) (h1 : left ≤ 1048576) : ∃ r, Ev (fun _ => laws_szNode.f x.f0 x.f1 x.f2 x.f3 x.f4 x.f5 left) r ∧ r ≤ left ∧ (0 ≤ r → okNode x) := by
  obtain ⟨a, b, c, d, e, f⟩ := x
  obtain ⟨_, _, g2, g3, g4, g5, _⟩ := hg
  have g2 : c.size ≤ 9223372036854775807 := g2
  have g3 : d.size ≤ 9223372036854775807 := g3
  have g4 : e.size ≤ 9223372036854775807 := g4
  have g5 : f.length ≤ 9223372036854775807 := g5
  simp only [laws_szNode.f, okNode]
  rw [w64 (x := left - (c.size : Int)) (by omega) (by omega)]
  by_cases c1 : left - (c.size : Int) < 0
  · exact ⟨-1, ev_pos c1 (ev_ret _), by omega, fun h => by omega⟩
  · rw [w64 (x := left - (c.size : Int) - (d.size : Int)) (by omega) (by omega)]
    by_cases c2 : left - (c.size : Int) - (d.size : Int) < 0
    · exact ⟨-1, ev_neg c1 (ev_pos c2 (ev_ret _)), by omega, fun h => by omega⟩
    · rw [w64 (x := left - (c.size : Int) - (d.size : Int) - (e.size : Int)) (by omega) (by omega)]
      by_cases c3 : left - (c.size : Int) - (d.size : Int) - (e.size : Int) < 0
      · exact ⟨-1, ev_neg c1 (ev_neg c2 (ev_pos c3 (ev_ret _))), by omega, fun h => by omega⟩
      · obtain ⟨r, hr, hle, hx⟩ := szIntS_some f g5 (left - (c.size : Int) - (d.size : Int) - (e.size : Int)) (by omega) (by omega)
        by_cases c4 : r < 0
        · exact ⟨-1, ev_neg c1 (ev_neg c2 (ev_neg c3 (ev_bindc hr (ev_pos c4 (ev_ret _))))), by omega, fun h => by omega⟩
        · have := hx (by omega)
          exact ⟨r, ev_neg c1 (ev_neg c2 (ev_neg c3 (ev_bindc hr (ev_neg c4 (ev_ret _))))), by omega, fun h => by omega⟩
theorem szEntry_ev (x : S143) (hg : G143 x) (left : Int) (h0 : 0 ≤ left) (h1 : left ≤ 1048576) : ∃ r, Ev (fun _ => laws_szEntry.f x.f0 x.f1 x.f2 left) r ∧ r ≤ left ∧ (0 ≤ r → okEntry x) := by
  obtain ⟨a, b, c⟩ := x
  obtain ⟨g1, g2, _⟩ := hg
  have g1 : a.size ≤ 9223372036854775807 := g1
  have g2 : b.size ≤ 9223372036854775807 := g2
  simp only [laws_szEntry.f, okEntry]
  rw [w64 (x := left - (a.size : Int)) (by omega) (by omega)]
  by_cases c1 : left - (a.size : Int) < 0
  · exact ⟨-1, ev_pos c1 (ev_ret _), by omega, fun h => by omega⟩
  · rw [w64 (x := left - (a.size : Int) - (b.size : Int)) (by omega) (by omega)]
    by_cases c2 : left - (a.size : Int) - (b.size : Int) < 0
    · exact ⟨-1, ev_neg c1 (ev_pos c2 (ev_ret _)), by omega, fun h => by omega⟩
    · exact ⟨_, ev_neg c1 (ev_neg c2 (ev_ret _)), by omega, fun h => by omega⟩
theorem szNodeS_l0 (l : List S113) (hl : l.length ≤ 1048576) (hg : ∀ x ∈ l, G113 x) (n : Nat) : ∀ (left i : Int), 0 ≤ left → left ≤ 1048576 → 0 ≤ i → (l.length : Int) - i = n →
    ∃ r, Ev (fun k => laws_szNodeS.l0 k l left i) r ∧ r ≤ left ∧ (0 ≤ r → ∀ x ∈ l.drop i.toNat, okNode x) := by
  induction n with
  | zero =>
    intro left i h0 h1 hi hn
    refine ⟨left, ev_step ?_, Int.le_refl _, fun _ x hx => ?_⟩
    · simp only [laws_szNodeS.l0]
      exact ev_neg (by omega) (ev_ret _)
    · rw [drop_end hi (by omega)] at hx
      cases hx
  | succ n ih =>
    intro left i h0 h1 hi hn
    have hm : rdOf z113 l i ∈ l := rdOf_mem hi (by omega)
    obtain ⟨q, hq, hle, hx⟩ := szNode_ev (rdOf z113 l i) (hg _ hm) left h0 h1
    rw [drop_rd (d := z113) (l := l) hi (by omega)]
    have step : ∀ r, Ev (fun k => if q < 0 then (some (-1)) else (laws_szNodeS.l0 k l q (wrap64 (i + 1)))) r → Ev (fun k => laws_szNodeS.l0 k l left i) r := by
      intro r h
      refine ev_step ?_
      simp only [laws_szNodeS.l0]
      exact ev_pos (by omega) (ev_pos hi (Ev.bind hq h))
    rw [w64 (x := i + 1) (by omega) (by omega)] at step
    by_cases c : q < 0
    · exact ⟨-1, step _ (ev_pos c (ev_ret _)), by omega, fun h => by omega⟩
    · obtain ⟨r, hr, hle2, hx2⟩ := ih q (i + 1) (by omega) (by omega) (by omega) (by omega)
      refine ⟨r, step _ (ev_neg c hr), by omega, fun h x hm => ?_⟩
      rcases List.mem_cons.1 hm with rfl | hm
      · exact hx (by omega)
      · exact hx2 h x hm
theorem szNodeS_ev (l : List S113) (hg : GL G113 l) (left : Int) (h0 : 0 ≤ left) (h1 : left ≤ 1048576) :
    ∃ r, Ev (fun k => laws_szNodeS.f k l left) r ∧ r ≤ left ∧ (0 ≤ r → l.length ≤ 1048576 ∧ ∀ x ∈ l, okNode x) := by
  have hl : l.length ≤ 9223372036854775807 := hg.1
  unfold laws_szNodeS.f
  rw [w64 (x := left - (l.length : Int)) (by omega) (by omega)]
  by_cases c : left - (l.length : Int) < 0
  · exact ⟨-1, ev_pos c (ev_ret _), by omega, fun h => by omega⟩
  · obtain ⟨r, hr, hle, hx⟩ := szNodeS_l0 l (by omega) hg.2 l.length (left - l.length) 0 (by omega) (by omega) (by omega) (by omega)
    exact ⟨r, ev_neg c hr, by omega, fun h => ⟨by omega, fun x hm => hx h x (by simpa using hm)⟩⟩
theorem szEntryS_l0 (l : List S143) (hl : l.length ≤ 1048576) (hg : ∀ x ∈ l, G143 x) (n : Nat) : ∀ (left i : Int), 0 ≤ left → left ≤ 1048576 → 0 ≤ i → (l.length : Int) - i = n →
    ∃ r, Ev (fun k => laws_szEntryS.l0 k l left i) r ∧ r ≤ left ∧ (0 ≤ r → ∀ x ∈ l.drop i.toNat, okEntry x) := by
  induction n with
  | zero =>
    intro left i h0 h1 hi hn
    refine ⟨left, ev_step ?_, Int.le_refl _, fun _ x hx => ?_⟩
    · simp only [laws_szEntryS.l0]
      exact ev_neg (by omega) (ev_ret _)
    · rw [drop_end hi (by omega)] at hx
      cases hx
  | succ n ih =>
    intro left i h0 h1 hi hn
    have hm : rdOf z143 l i ∈ l := rdOf_mem hi (by omega)
    obtain ⟨q, hq, hle, hx⟩ := szEntry_ev (rdOf z143 l i) (hg _ hm) left h0 h1
    rw [drop_rd (d := z143) (l := l) hi (by omega)]
    have step : ∀ r, Ev (fun k => if q < 0 then (some (-1)) else (laws_szEntryS.l0 k l q (wrap64 (i + 1)))) r → Ev (fun k => laws_szEntryS.l0 k l left i) r := by
      intro r h
      refine ev_step ?_
      simp only [laws_szEntryS.l0]
      exact ev_pos (by omega) (ev_pos hi (Ev.bind hq h))
    rw [w64 (x := i + 1) (by omega) (by omega)] at step
    by_cases c : q < 0
    · exact ⟨-1, step _ (ev_pos c (ev_ret _)), by omega, fun h => by omega⟩
    · obtain ⟨r, hr, hle2, hx2⟩ := ih q (i + 1) (by omega) (by omega) (by omega) (by omega)
      refine ⟨r, step _ (ev_neg c hr), by omega, fun h x hm => ?_⟩
      rcases List.mem_cons.1 hm with rfl | hm
      · exact hx (by omega)
      · exact hx2 h x hm
theorem szEntryS_ev (l : List S143) (hg : GL G143 l) (left : Int) (h0 : 0 ≤ left) (h1 : left ≤ 1048576) :
    ∃ r, Ev (fun k => laws_szEntryS.f k l left) r ∧ r ≤ left ∧ (0 ≤ r → l.length ≤ 1048576 ∧ ∀ x ∈ l, okEntry x) := by
  have hl : l.length ≤ 9223372036854775807 := hg.1
  unfold laws_szEntryS.f
  rw [w64 (x := left - (l.length : Int)) (by omega) (by omega)]
  by_cases c : left - (l.length : Int) < 0
  · exact ⟨-1, ev_pos c (ev_ret _), by omega, fun h => by omega⟩
  · obtain ⟨r, hr, hle, hx⟩ := szEntryS_l0 l (by omega) hg.2 l.length (left - l.length) 0 (by omega) (by omega) (by omega) (by omega)
    exact ⟨r, ev_neg c hr, by omega, fun h => ⟨by omega, fun x hm => hx h x (by simpa using hm)⟩⟩
theorem szStrs_ok {l : List ByteArray} {left : Int} (h1 : left ≤ 1048576) (h : (l.length : Int) ≤ left ∧ ∀ x ∈ l, (x.size : Int) ≤ left) : l.length ≤ 1048576 ∧ ∀ s ∈ l, s.size ≤ 1048576 := by
  refine ⟨by omega, fun s hs => ?_⟩
  have := h.2 s hs
  omega
theorem szMonitor_ev (x : S117) (hg : G117 x) (left : Int) (h0 : 0 ≤ left) (h1 : left ≤ 1048576) : ∃ r, Ev (fun k => laws_szMonitor.f k x.f0 x.f1 x.f2 x.f3 left) r ∧ r ≤ left ∧ (0 ≤ r → okMonitor x) := by
  obtain ⟨a, b, c, d⟩ := x
  obtain ⟨g0, ⟨g1, g1'⟩, ⟨g2, g2'⟩, g3⟩ := hg
  have g0 : a.size ≤ 9223372036854775807 := g0
  simp only [laws_szMonitor.f, okMonitor]
  rw [w64 (x := left - (a.size : Int)) (by omega) (by omega)]
  by_cases c1 : left - (a.size : Int) < 0
  · exact ⟨-1, ev_pos c1 (ev_ret _), by omega, fun h => by omega⟩
  · obtain ⟨p, hp, hple, hpx⟩ := szStringS_ev b g1 g1' (left - (a.size : Int)) (by omega) (by omega)
    by_cases c2 : p < 0
    · exact ⟨-1, ev_neg c1 (Ev.bind hp (ev_pos c2 (ev_ret _))), by omega, fun h => by omega⟩
    · obtain ⟨q, hq, hqle, hqx⟩ := szStringS_ev c g2 g2' p (by omega) (by omega)
      by_cases c3 : q < 0
      · exact ⟨-1, ev_neg c1 (Ev.bind hp (ev_neg c2 (Ev.bind hq (ev_pos c3 (ev_ret _))))), by omega, fun h => by omega⟩
      · obtain ⟨r, hr, hrle, hrx⟩ := szEntryS_ev d g3 q (by omega) (by omega)
        by_cases c4 : r < 0
        · exact ⟨-1, ev_neg c1 (Ev.bind hp (ev_neg c2 (Ev.bind hq (ev_neg c3 (Ev.bind hr (ev_pos c4 (ev_ret _))))))), by omega, fun h => by omega⟩
        · refine ⟨r, ev_neg c1 (Ev.bind hp (ev_neg c2 (Ev.bind hq (ev_neg c3 (Ev.bind hr (ev_neg c4 (ev_ret _))))))), by omega, fun h => ?_⟩
          obtain ⟨e1, e2⟩ := szStrs_ok (by omega) (hpx (by omega))
          obtain ⟨e3, e4⟩ := szStrs_ok (by omega) (hqx (by omega))
          obtain ⟨e5, e6⟩ := hrx (by omega)
          exact ⟨by omega, e1, e2, e3, e4, e5, e6⟩
theorem szProcess_ev (x : S119) (hg : G119 x) (left : Int) (h0 : 0 ≤ left) (h1 : left ≤ 1048576) : ∃ r, Ev (fun k => laws_szProcess.f k x.f0 x.f1 x.f2 x.f3 left) r ∧ r ≤ left ∧ (0 ≤ r → okProcess x) := by
  obtain ⟨a, b, c, d⟩ := x
  obtain ⟨g0, ⟨g1, g1'⟩, ⟨g2, g2'⟩, _⟩ := hg
  have g0 : a.size ≤ 9223372036854775807 := g0
  simp only [laws_szProcess.f, okProcess]
  rw [w64 (x := left - (a.size : Int)) (by omega) (by omega)]
  by_cases c1 : left - (a.size : Int) < 0
  · exact ⟨-1, ev_pos c1 (ev_ret _), by omega, fun h => by omega⟩
  · obtain ⟨p, hp, hple, hpx⟩ := szStringS_ev b g1 g1' (left - (a.size : Int)) (by omega) (by omega)
    by_cases c2 : p < 0
    · exact ⟨-1, ev_neg c1 (Ev.bind hp (ev_pos c2 (ev_ret _))), by omega, fun h => by omega⟩
    · obtain ⟨q, hq, hqle, hqx⟩ := szStringS_ev c g2 g2' p (by omega) (by omega)
      by_cases c3 : q < 0
      · exact ⟨-1, ev_neg c1 (Ev.bind hp (ev_neg c2 (Ev.bind hq (ev_pos c3 (ev_ret _))))), by omega, fun h => by omega⟩
      · refine ⟨q, ev_neg c1 (Ev.bind hp (ev_neg c2 (Ev.bind hq (ev_neg c3 (ev_ret _))))), by omega, fun h => ?_⟩
        obtain ⟨e1, e2⟩ := szStrs_ok (by omega) (hpx (by omega))
        obtain ⟨e3, e4⟩ := szStrs_ok (by omega) (hqx (by omega))
        exact ⟨by omega, e1, e2, e3, e4⟩
theorem szMonitorS_l0 (l : List S117) (hl : l.length ≤ 1048576) (hg : ∀ x ∈ l, G117 x) (n : Nat) : ∀ (left i : Int), 0 ≤ left → left ≤ 1048576 → 0 ≤ i → (l.length : Int) - i = n →
    ∃ r, Ev (fun k => laws_szMonitorS.l0 k l left i) r ∧ r ≤ left ∧ (0 ≤ r → ∀ x ∈ l.drop i.toNat, okMonitor x) := by
  induction n with
  | zero =>
    intro left i h0 h1 hi hn
    refine ⟨left, ev_step ?_, Int.le_refl _, fun _ x hx => ?_⟩
    · simp only [laws_szMonitorS.l0]
      exact ev_neg (by omega) (ev_ret _)
    · rw [drop_end hi (by omega)] at hx
      cases hx
  | succ n ih =>
    intro left i h0 h1 hi hn
    have hm : rdOf z117 l i ∈ l := rdOf_mem hi (by omega)
    obtain ⟨q, hq, hle, hx⟩ := szMonitor_ev (rdOf z117 l i) (hg _ hm) left h0 h1
    rw [drop_rd (d := z117) (l := l) hi (by omega)]
    have step : ∀ r, Ev (fun k => if q < 0 then (some (-1)) else (laws_szMonitorS.l0 k l q (wrap64 (i + 1)))) r → Ev (fun k => laws_szMonitorS.l0 k l left i) r := by
      intro r h
      refine ev_step ?_
      simp only [laws_szMonitorS.l0]
      exact ev_pos (by omega) (ev_pos hi (Ev.bind hq h))
    rw [w64 (x := i + 1) (by omega) (by omega)] at step
    by_cases c : q < 0
    · exact ⟨-1, step _ (ev_pos c (ev_ret _)), by omega, fun h => by omega⟩
    · obtain ⟨r, hr, hle2, hx2⟩ := ih q (i + 1) (by omega) (by omega) (by omega) (by omega)
      refine ⟨r, step _ (ev_neg c hr), by omega, fun h x hm => ?_⟩
      rcases List.mem_cons.1 hm with rfl | hm
      · exact hx (by omega)
      · exact hx2 h x hm
theorem szMonitorS_ev (l : List S117) (hg : GL G117 l) (left : Int) (h0 : 0 ≤ left) (h1 : left ≤ 1048576) :
    ∃ r, Ev (fun k => laws_szMonitorS.f k l left) r ∧ r ≤ left ∧ (0 ≤ r → l.length ≤ 1048576 ∧ ∀ x ∈ l, okMonitor x) := by
  have hl : l.length ≤ 9223372036854775807 := hg.1
  unfold laws_szMonitorS.f
  rw [w64 (x := left - (l.length : Int)) (by omega) (by omega)]
  by_cases c : left - (l.length : Int) < 0
  · exact ⟨-1, ev_pos c (ev_ret _), by omega, fun h => by omega⟩
  · obtain ⟨r, hr, hle, hx⟩ := szMonitorS_l0 l (by omega) hg.2 l.length (left - l.length) 0 (by omega) (by omega) (by omega) (by omega)
    exact ⟨r, ev_neg c hr, by omega, fun h => ⟨by omega, fun x hm => hx h x (by simpa using hm)⟩⟩
theorem szProcessS_l0 (l : List S119) (hl : l.length ≤ 1048576) (hg : ∀ x ∈ l, G119 x) (n : Nat) : ∀ (left i : Int), 0 ≤ left → left ≤ 1048576 → 0 ≤ i → (l.length : Int) - i = n →
    ∃ r, Ev (fun k => laws_szProcessS.l0 k l left i) r ∧ r ≤ left ∧ (0 ≤ r → ∀ x ∈ l.drop i.toNat, okProcess x) := by
  induction n with
  | zero =>
    intro left i h0 h1 hi hn
    refine ⟨left, ev_step ?_, Int.le_refl _, fun _ x hx => ?_⟩
    · simp only [laws_szProcessS.l0]
      exact ev_neg (by omega) (ev_ret _)
    · rw [drop_end hi (by omega)] at hx
      cases hx
  | succ n ih =>
    intro left i h0 h1 hi hn
    have hm : rdOf z119 l i ∈ l := rdOf_mem hi (by omega)
    obtain ⟨q, hq, hle, hx⟩ := szProcess_ev (rdOf z119 l i) (hg _ hm) left h0 h1
    rw [drop_rd (d := z119) (l := l) hi (by omega)]
    have step : ∀ r, Ev (fun k => if q < 0 then (some (-1)) else (laws_szProcessS.l0 k l q (wrap64 (i + 1)))) r → Ev (fun k => laws_szProcessS.l0 k l left i) r := by
      intro r h
      refine ev_step ?_
      simp only [laws_szProcessS.l0]
      exact ev_pos (by omega) (ev_pos hi (Ev.bind hq h))
    rw [w64 (x := i + 1) (by omega) (by omega)] at step
    by_cases c : q < 0
    · exact ⟨-1, step _ (ev_pos c (ev_ret _)), by omega, fun h => by omega⟩
    · obtain ⟨r, hr, hle2, hx2⟩ := ih q (i + 1) (by omega) (by omega) (by omega) (by omega)
      refine ⟨r, step _ (ev_neg c hr), by omega, fun h x hm => ?_⟩
      rcases List.mem_cons.1 hm with rfl | hm
      · exact hx (by omega)
      · exact hx2 h x hm
theorem szProcessS_ev (l : List S119) (hg : GL G119 l) (left : Int) (h0 : 0 ≤ left) (h1 : left ≤ 1048576) :
    ∃ r, Ev (fun k => laws_szProcessS.f k l left) r ∧ r ≤ left ∧ (0 ≤ r → l.length ≤ 1048576 ∧ ∀ x ∈ l, okProcess x) := by
  have hl : l.length ≤ 9223372036854775807 := hg.1
  unfold laws_szProcessS.f
  rw [w64 (x := left - (l.length : Int)) (by omega) (by omega)]
  by_cases c : left - (l.length : Int) < 0
  · exact ⟨-1, ev_pos c (ev_ret _), by omega, fun h => by omega⟩
  · obtain ⟨r, hr, hle, hx⟩ := szProcessS_l0 l (by omega) hg.2 l.length (left - l.length) 0 (by omega) (by omega) (by omega) (by omega)
    exact ⟨r, ev_neg c hr, by omega, fun h => ⟨by omega, fun x hm => hx h x (by simpa using hm)⟩⟩
def okProg (a : List S113) (b : List S117) (c : List S119) : Prop := (a.length ≤ 1048576 ∧ ∀ x ∈ a, okNode x) ∧ (b.length ≤ 1048576 ∧ ∀ x ∈ b, okMonitor x) ∧ (c.length ≤ 1048576 ∧ ∀ x ∈ c, okProcess x)
theorem szProgram_ev (a : List S113) (b : List S117) (c : List S119) (ga : GL G113 a) (gb : GL G117 b) (gc : GL G119 c) (left : Int) (h0 : 0 ≤ left) (h1 : left ≤ 1048576) :
    ∃ r, Ev (fun k => laws_szProgram.f k a b c left) r ∧ r ≤ left ∧ (0 ≤ r → okProg a b c) := by
  unfold laws_szProgram.f
  obtain ⟨p, hp, hple, hpx⟩ := szNodeS_ev a ga left h0 h1
  by_cases c1 : p < 0
  · exact ⟨-1, Ev.bind hp (ev_pos c1 (ev_ret _)), by omega, fun h => by omega⟩
  · obtain ⟨q, hq, hqle, hqx⟩ := szMonitorS_ev b gb p (by omega) (by omega)
    by_cases c2 : q < 0
    · exact ⟨-1, Ev.bind hp (ev_neg c1 (Ev.bind hq (ev_pos c2 (ev_ret _)))), by omega, fun h => by omega⟩
    · obtain ⟨r, hr, hrle, hrx⟩ := szProcessS_ev c gc q (by omega) (by omega)
      by_cases c3 : r < 0
      · exact ⟨-1, Ev.bind hp (ev_neg c1 (Ev.bind hq (ev_neg c2 (Ev.bind hr (ev_pos c3 (ev_ret _)))))), by omega, fun h => by omega⟩
      · exact ⟨r, Ev.bind hp (ev_neg c1 (Ev.bind hq (ev_neg c2 (Ev.bind hr (ev_neg c3 (ev_ret _)))))), by omega, fun h => ⟨hpx (by omega), hqx (by omega), hrx (by omega)⟩⟩

theorem toStringS_l0 (src : List ByteArray) (hl : src.length ≤ 1048576) (n : Nat) : ∀ (acc : List ByteArray) (i : Int), 0 ≤ i → (src.length : Int) - i = n → acc.length = src.length → acc.take i.toNat = src.take i.toNat → Ev (fun k => laws_toStringS.l0 k src acc i) src := by
  induction n with
  | zero =>
    intro acc i h0 hn ha ht
    refine ev_step ?_
    simp only [laws_toStringS.l0]
    exact ev_neg (by omega) (ev_eq (copy_end h0 (by omega) ha ht) (ev_ret _))
  | succ n ih =>
    intro acc i h0 hn ha ht
    refine ev_step ?_
    simp only [laws_toStringS.l0]
    obtain ⟨h2, h3⟩ := copy_step ByteArray.empty h0 (by omega) ha ht
    refine ev_pos (by omega) (ev_pos h0 (ev_pos (by omega) ?_))
    rw [w64 (x := i + 1) (by omega) (by omega)]
    exact ih _ (i + 1) (by omega) (by omega) h2 h3
theorem toStringS_ev (src : List ByteArray) (hl : src.length ≤ 1048576) : Ev (fun k => laws_toStringS.f k src) src := by
  unfold laws_toStringS.f
  exact ev_pos (by omega) (ev_pos (by omega) (toStringS_l0 src hl src.length _ 0 (by omega) (by omega) (by simp) rfl))

theorem toIntS_l0 (src : List Int) (hl : src.length ≤ 1048576) (n : Nat) : ∀ (acc : List Int) (i : Int), 0 ≤ i → (src.length : Int) - i = n → acc.length = src.length → acc.take i.toNat = src.take i.toNat → Ev (fun k => laws_toIntS.l0 k src acc i) src := by
  induction n with
  | zero =>
    intro acc i h0 hn ha ht
    refine ev_step ?_
    simp only [laws_toIntS.l0]
    exact ev_neg (by omega) (ev_eq (copy_end h0 (by omega) ha ht) (ev_ret _))
  | succ n ih =>
    intro acc i h0 hn ha ht
    refine ev_step ?_
    simp only [laws_toIntS.l0, rd_rdOf]
    obtain ⟨h2, h3⟩ := copy_step 0 h0 (by omega) ha ht
    refine ev_pos (by omega) (ev_pos h0 (ev_pos (by omega) ?_))
    rw [w64 (x := i + 1) (by omega) (by omega)]
    exact ih _ (i + 1) (by omega) (by omega) h2 h3
theorem toIntS_ev (src : List Int) (hl : src.length ≤ 1048576) : Ev (fun k => laws_toIntS.f k src) src := by
  unfold laws_toIntS.f
  exact ev_pos (by omega) (ev_pos (by omega) (toIntS_l0 src hl src.length _ 0 (by omega) (by omega) (by simp) rfl))

def cNode (x : S113) : S77 := ⟨x.f0, x.f1, x.f2, x.f3, x.f4, x.f5⟩
def cEntry (x : S143) : S131 := ⟨x.f0, x.f1, x.f2⟩
def cMonitor (x : S117) : S106 := ⟨x.f0, x.f1, x.f2, x.f3.map cEntry⟩
def cProcess (x : S119) : S103 := ⟨x.f0, x.f1, x.f2, x.f3⟩
theorem toNode_ev (x : S113) (h : okNode x) : Ev (fun k => laws_toNode.f k x.f0 x.f1 x.f2 x.f3 x.f4 x.f5) (x.f0, x.f1, x.f2, x.f3, x.f4, x.f5) := by
  unfold laws_toNode.f
  exact Ev.bind (toIntS_ev _ h.2.2.2) (ev_ret _)
theorem toEntry_ev (x : S143) (h : okEntry x) : Ev (fun _ => laws_toEntry.f x.f0 x.f1 x.f2) (x.f0, x.f1, x.f2) := by
  unfold laws_toEntry.f
  exact ev_ret _
theorem toProcess_ev (x : S119) (h : okProcess x) : Ev (fun k => laws_toProcess.f k x.f0 x.f1 x.f2 x.f3) (x.f0, x.f1, x.f2, x.f3) := by
  unfold laws_toProcess.f
  exact Ev.bind (toStringS_ev _ h.2.1) (Ev.bind (toStringS_ev _ h.2.2.2.1) (ev_ret _))
theorem toNodeS_l0 (l : List S113) (hl : l.length ≤ 1048576) (hk : ∀ x ∈ l, okNode x) (n : Nat) : ∀ (acc : List S77) (i : Int), 0 ≤ i → (l.length : Int) - i = n → acc.length = (l.map cNode).length → acc.take i.toNat = (l.map cNode).take i.toNat → Ev (fun k => laws_toNodeS.l0 k l acc i) (l.map cNode) := by
  have hlm : (l.map cNode).length = l.length := List.length_map ..
  induction n with
  | zero =>
    intro acc i h0 hn ha ht
    refine ev_step ?_
    simp only [laws_toNodeS.l0]
    exact ev_neg (by omega) (ev_eq (copy_end h0 (by omega) ha ht) (ev_ret _))
  | succ n ih =>
    intro acc i h0 hn ha ht
    refine ev_step ?_
    simp only [laws_toNodeS.l0]
    have hm : rdOf z113 l i ∈ l := rdOf_mem h0 (by omega)
    obtain ⟨h2, h3⟩ := copy_step z77 h0 (by omega) ha ht
    have hv : rdOf z77 (l.map cNode) i = cNode (rdOf z113 l i) := by
      unfold rdOf
      rw [List.getD_eq_getElem?_getD, List.getD_eq_getElem?_getD, List.getElem?_map, List.getElem?_eq_getElem (show i.toNat < l.length by omega)]
      rfl
    rw [hv] at h2 h3
    refine ev_pos (by omega) (ev_pos h0 (Ev.bind (toNode_ev (rdOf z113 l i) (hk _ hm)) (ev_pos (by omega) ?_)))
    rw [w64 (x := i + 1) (by omega) (by omega)]
    exact ih _ (i + 1) (by omega) (by omega) h2 h3
theorem toNodeS_ev (l : List S113) (hl : l.length ≤ 1048576) (hk : ∀ x ∈ l, okNode x) : Ev (fun k => laws_toNodeS.f k l) (l.map cNode) := by
  unfold laws_toNodeS.f
  exact ev_pos (by omega) (ev_pos (by omega) (toNodeS_l0 l hl hk l.length _ 0 (by omega) (by omega) (by simp) rfl))
theorem toEntryS_l0 (l : List S143) (hl : l.length ≤ 1048576) (hk : ∀ x ∈ l, okEntry x) (n : Nat) : ∀ (acc : List S131) (i : Int), 0 ≤ i → (l.length : Int) - i = n → acc.length = (l.map cEntry).length → acc.take i.toNat = (l.map cEntry).take i.toNat → Ev (fun k => laws_toEntryS.l0 k l acc i) (l.map cEntry) := by
  have hlm : (l.map cEntry).length = l.length := List.length_map ..
  induction n with
  | zero =>
    intro acc i h0 hn ha ht
    refine ev_step ?_
    simp only [laws_toEntryS.l0]
    exact ev_neg (by omega) (ev_eq (copy_end h0 (by omega) ha ht) (ev_ret _))
  | succ n ih =>
    intro acc i h0 hn ha ht
    refine ev_step ?_
    simp only [laws_toEntryS.l0]
    have hm : rdOf z143 l i ∈ l := rdOf_mem h0 (by omega)
    obtain ⟨h2, h3⟩ := copy_step z131 h0 (by omega) ha ht
    have hv : rdOf z131 (l.map cEntry) i = cEntry (rdOf z143 l i) := by
      unfold rdOf
      rw [List.getD_eq_getElem?_getD, List.getD_eq_getElem?_getD, List.getElem?_map, List.getElem?_eq_getElem (show i.toNat < l.length by omega)]
      rfl
    rw [hv] at h2 h3
    refine ev_pos (by omega) (ev_pos h0 (Ev.bind (toEntry_ev (rdOf z143 l i) (hk _ hm)) (ev_pos (by omega) ?_)))
    rw [w64 (x := i + 1) (by omega) (by omega)]
    exact ih _ (i + 1) (by omega) (by omega) h2 h3
theorem toEntryS_ev (l : List S143) (hl : l.length ≤ 1048576) (hk : ∀ x ∈ l, okEntry x) : Ev (fun k => laws_toEntryS.f k l) (l.map cEntry) := by
  unfold laws_toEntryS.f
  exact ev_pos (by omega) (ev_pos (by omega) (toEntryS_l0 l hl hk l.length _ 0 (by omega) (by omega) (by simp) rfl))
theorem toMonitor_ev (x : S117) (h : okMonitor x) : Ev (fun k => laws_toMonitor.f k x.f0 x.f1 x.f2 x.f3) (x.f0, x.f1, x.f2, x.f3.map cEntry) := by
  unfold laws_toMonitor.f
  exact Ev.bind (toStringS_ev _ h.2.1) (Ev.bind (toStringS_ev _ h.2.2.2.1) (Ev.bind (toEntryS_ev _ h.2.2.2.2.2.1 h.2.2.2.2.2.2) (ev_ret _)))
theorem toMonitorS_l0 (l : List S117) (hl : l.length ≤ 1048576) (hk : ∀ x ∈ l, okMonitor x) (n : Nat) : ∀ (acc : List S106) (i : Int), 0 ≤ i → (l.length : Int) - i = n → acc.length = (l.map cMonitor).length → acc.take i.toNat = (l.map cMonitor).take i.toNat → Ev (fun k => laws_toMonitorS.l0 k l acc i) (l.map cMonitor) := by
  have hlm : (l.map cMonitor).length = l.length := List.length_map ..
  induction n with
  | zero =>
    intro acc i h0 hn ha ht
    refine ev_step ?_
    simp only [laws_toMonitorS.l0]
    exact ev_neg (by omega) (ev_eq (copy_end h0 (by omega) ha ht) (ev_ret _))
  | succ n ih =>
    intro acc i h0 hn ha ht
    refine ev_step ?_
    simp only [laws_toMonitorS.l0]
    have hm : rdOf z117 l i ∈ l := rdOf_mem h0 (by omega)
    obtain ⟨h2, h3⟩ := copy_step z106 h0 (by omega) ha ht
    have hv : rdOf z106 (l.map cMonitor) i = cMonitor (rdOf z117 l i) := by
      unfold rdOf
      rw [List.getD_eq_getElem?_getD, List.getD_eq_getElem?_getD, List.getElem?_map, List.getElem?_eq_getElem (show i.toNat < l.length by omega)]
      rfl
    rw [hv] at h2 h3
    refine ev_pos (by omega) (ev_pos h0 (Ev.bind (toMonitor_ev (rdOf z117 l i) (hk _ hm)) (ev_pos (by omega) ?_)))
    rw [w64 (x := i + 1) (by omega) (by omega)]
    exact ih _ (i + 1) (by omega) (by omega) h2 h3
theorem toMonitorS_ev (l : List S117) (hl : l.length ≤ 1048576) (hk : ∀ x ∈ l, okMonitor x) : Ev (fun k => laws_toMonitorS.f k l) (l.map cMonitor) := by
  unfold laws_toMonitorS.f
  exact ev_pos (by omega) (ev_pos (by omega) (toMonitorS_l0 l hl hk l.length _ 0 (by omega) (by omega) (by simp) rfl))
theorem toProcessS_l0 (l : List S119) (hl : l.length ≤ 1048576) (hk : ∀ x ∈ l, okProcess x) (n : Nat) : ∀ (acc : List S103) (i : Int), 0 ≤ i → (l.length : Int) - i = n → acc.length = (l.map cProcess).length → acc.take i.toNat = (l.map cProcess).take i.toNat → Ev (fun k => laws_toProcessS.l0 k l acc i) (l.map cProcess) := by
  have hlm : (l.map cProcess).length = l.length := List.length_map ..
  induction n with
  | zero =>
    intro acc i h0 hn ha ht
    refine ev_step ?_
    simp only [laws_toProcessS.l0]
    exact ev_neg (by omega) (ev_eq (copy_end h0 (by omega) ha ht) (ev_ret _))
  | succ n ih =>
    intro acc i h0 hn ha ht
    refine ev_step ?_
    simp only [laws_toProcessS.l0]
    have hm : rdOf z119 l i ∈ l := rdOf_mem h0 (by omega)
    obtain ⟨h2, h3⟩ := copy_step z103 h0 (by omega) ha ht
    have hv : rdOf z103 (l.map cProcess) i = cProcess (rdOf z119 l i) := by
      unfold rdOf
      rw [List.getD_eq_getElem?_getD, List.getD_eq_getElem?_getD, List.getElem?_map, List.getElem?_eq_getElem (show i.toNat < l.length by omega)]
      rfl
    rw [hv] at h2 h3
    refine ev_pos (by omega) (ev_pos h0 (Ev.bind (toProcess_ev (rdOf z119 l i) (hk _ hm)) (ev_pos (by omega) ?_)))
    rw [w64 (x := i + 1) (by omega) (by omega)]
    exact ih _ (i + 1) (by omega) (by omega) h2 h3
theorem toProcessS_ev (l : List S119) (hl : l.length ≤ 1048576) (hk : ∀ x ∈ l, okProcess x) : Ev (fun k => laws_toProcessS.f k l) (l.map cProcess) := by
  unfold laws_toProcessS.f
  exact ev_pos (by omega) (ev_pos (by omega) (toProcessS_l0 l hl hk l.length _ 0 (by omega) (by omega) (by simp) rfl))
theorem toProgram_ev (a : List S113) (b : List S117) (c : List S119) (h : okProg a b c) : Ev (fun k => laws_toProgram.f k a b c) (a.map cNode, b.map cMonitor, c.map cProcess) := by
  unfold laws_toProgram.f
  exact Ev.bind (toNodeS_ev _ h.1.1 h.1.2) (Ev.bind (toMonitorS_ev _ h.2.1.1 h.2.1.2) (Ev.bind (toProcessS_ev _ h.2.2.1 h.2.2.2) (ev_ret _)))

theorem eqStringS_l0 (l : List ByteArray) (hl : l.length ≤ 9223372036854775807) (n : Nat) : ∀ i : Int, 0 ≤ i → (l.length : Int) - i = n → Ev (fun k => laws_eqStringS.l0 k l l i) true := by
  induction n with
  | zero =>
    intro i h0 hn
    refine ev_step ?_
    simp only [laws_eqStringS.l0]
    exact ev_neg (by omega) (ev_ret _)
  | succ n ih =>
    intro i h0 hn
    refine ev_step ?_
    simp only [laws_eqStringS.l0]
    refine ev_pos (by omega) (ev_pos h0 (ev_pos (by omega) (ev_pos (by simp) ?_)))
    rw [w64 (x := i + 1) (by omega) (by omega)]
    exact ih (i + 1) (by omega) (by omega)
theorem eqStringS_ev (l : List ByteArray) (hl : l.length ≤ 9223372036854775807) : Ev (fun k => laws_eqStringS.f k l l) true := by
  unfold laws_eqStringS.f
  exact ev_pos rfl (eqStringS_l0 l hl l.length 0 (by omega) (by omega))

theorem eqIntS_l0 (l : List Int) (hl : l.length ≤ 9223372036854775807) (n : Nat) : ∀ i : Int, 0 ≤ i → (l.length : Int) - i = n → Ev (fun k => laws_eqIntS.l0 k l l i) true := by
  induction n with
  | zero =>
    intro i h0 hn
    refine ev_step ?_
    simp only [laws_eqIntS.l0]
    exact ev_neg (by omega) (ev_ret _)
  | succ n ih =>
    intro i h0 hn
    refine ev_step ?_
    simp only [laws_eqIntS.l0]
    refine ev_pos (by omega) (ev_pos h0 (ev_pos (by omega) (ev_pos (by simp) ?_)))
    rw [w64 (x := i + 1) (by omega) (by omega)]
    exact ih (i + 1) (by omega) (by omega)
theorem eqIntS_ev (l : List Int) (hl : l.length ≤ 9223372036854775807) : Ev (fun k => laws_eqIntS.f k l l) true := by
  unfold laws_eqIntS.f
  exact ev_pos rfl (eqIntS_l0 l hl l.length 0 (by omega) (by omega))

def fitNode (x : S77) : Prop := x.f5.length ≤ 9223372036854775807
def fitEntry (_ : S131) : Prop := True
def fitMonitor (x : S106) : Prop := x.f1.length ≤ 9223372036854775807 ∧ x.f2.length ≤ 9223372036854775807 ∧ x.f3.length ≤ 9223372036854775807
def fitProcess (x : S103) : Prop := x.f1.length ≤ 9223372036854775807 ∧ x.f2.length ≤ 9223372036854775807
theorem eqNode_ev (x : S77) (h : fitNode x) : Ev (fun k => laws_eqNode.f k x.f0 x.f1 x.f2 x.f3 x.f4 x.f5 x.f0 x.f1 x.f2 x.f3 x.f4 x.f5) true := by
  unfold laws_eqNode.f
  exact ev_pos rfl (ev_pos rfl (ev_pos rfl (ev_pos rfl (ev_pos rfl (Ev.bind (eqIntS_ev _ h) (ev_pos rfl (ev_ret _)))))))
theorem eqEntry_ev (x : S131) (h : fitEntry x) : Ev (fun _ => laws_eqEntry.f x.f0 x.f1 x.f2 x.f0 x.f1 x.f2) true := by
  unfold laws_eqEntry.f
  exact ev_pos rfl (ev_pos rfl (ev_pos rfl (ev_ret _)))
theorem eqProcess_ev (x : S103) (h : fitProcess x) : Ev (fun k => laws_eqProcess.f k x.f0 x.f1 x.f2 x.f3 x.f0 x.f1 x.f2 x.f3) true := by
  unfold laws_eqProcess.f
  exact ev_pos rfl (Ev.bind (eqStringS_ev _ h.1) (ev_pos rfl (Ev.bind (eqStringS_ev _ h.2) (ev_pos rfl (ev_pos rfl (ev_ret _))))))
theorem eqNodeS_l0 (l : List S77) (hl : l.length ≤ 9223372036854775807) (hk : ∀ x ∈ l, fitNode x) (n : Nat) : ∀ i : Int, 0 ≤ i → (l.length : Int) - i = n → Ev (fun k => laws_eqNodeS.l0 k l l i) true := by
  induction n with
  | zero =>
    intro i h0 hn
    refine ev_step ?_
    simp only [laws_eqNodeS.l0]
    exact ev_neg (by omega) (ev_ret _)
  | succ n ih =>
    intro i h0 hn
    refine ev_step ?_
    simp only [laws_eqNodeS.l0]
    have hm : rdOf z77 l i ∈ l := rdOf_mem h0 (by omega)
    refine ev_pos (by omega) (ev_pos h0 (ev_pos (by omega) (Ev.bind (eqNode_ev (rdOf z77 l i) (hk _ hm)) (ev_pos rfl ?_))))
    rw [w64 (x := i + 1) (by omega) (by omega)]
    exact ih (i + 1) (by omega) (by omega)
theorem eqNodeS_ev (l : List S77) (hl : l.length ≤ 9223372036854775807) (hk : ∀ x ∈ l, fitNode x) : Ev (fun k => laws_eqNodeS.f k l l) true := by
  unfold laws_eqNodeS.f
  exact ev_pos rfl (eqNodeS_l0 l hl hk l.length 0 (by omega) (by omega))
theorem eqEntryS_l0 (l : List S131) (hl : l.length ≤ 9223372036854775807) (hk : ∀ x ∈ l, fitEntry x) (n : Nat) : ∀ i : Int, 0 ≤ i → (l.length : Int) - i = n → Ev (fun k => laws_eqEntryS.l0 k l l i) true := by
  induction n with
  | zero =>
    intro i h0 hn
    refine ev_step ?_
    simp only [laws_eqEntryS.l0]
    exact ev_neg (by omega) (ev_ret _)
  | succ n ih =>
    intro i h0 hn
    refine ev_step ?_
    simp only [laws_eqEntryS.l0]
    have hm : rdOf z131 l i ∈ l := rdOf_mem h0 (by omega)
    refine ev_pos (by omega) (ev_pos h0 (ev_pos (by omega) (Ev.bind (eqEntry_ev (rdOf z131 l i) (hk _ hm)) (ev_pos rfl ?_))))
    rw [w64 (x := i + 1) (by omega) (by omega)]
    exact ih (i + 1) (by omega) (by omega)
theorem eqEntryS_ev (l : List S131) (hl : l.length ≤ 9223372036854775807) (hk : ∀ x ∈ l, fitEntry x) : Ev (fun k => laws_eqEntryS.f k l l) true := by
  unfold laws_eqEntryS.f
  exact ev_pos rfl (eqEntryS_l0 l hl hk l.length 0 (by omega) (by omega))
theorem eqMonitor_ev (x : S106) (h : fitMonitor x) : Ev (fun k => laws_eqMonitor.f k x.f0 x.f1 x.f2 x.f3 x.f0 x.f1 x.f2 x.f3) true := by
  unfold laws_eqMonitor.f
  exact ev_pos rfl (Ev.bind (eqStringS_ev _ h.1) (ev_pos rfl (Ev.bind (eqStringS_ev _ h.2.1) (ev_pos rfl (Ev.bind (eqEntryS_ev _ h.2.2 (fun _ _ => trivial)) (ev_pos rfl (ev_ret _)))))))
theorem eqMonitorS_l0 (l : List S106) (hl : l.length ≤ 9223372036854775807) (hk : ∀ x ∈ l, fitMonitor x) (n : Nat) : ∀ i : Int, 0 ≤ i → (l.length : Int) - i = n → Ev (fun k => laws_eqMonitorS.l0 k l l i) true := by
  induction n with
  | zero =>
    intro i h0 hn
    refine ev_step ?_
    simp only [laws_eqMonitorS.l0]
    exact ev_neg (by omega) (ev_ret _)
  | succ n ih =>
    intro i h0 hn
    refine ev_step ?_
    simp only [laws_eqMonitorS.l0]
    have hm : rdOf z106 l i ∈ l := rdOf_mem h0 (by omega)
    refine ev_pos (by omega) (ev_pos h0 (ev_pos (by omega) (Ev.bind (eqMonitor_ev (rdOf z106 l i) (hk _ hm)) (ev_pos rfl ?_))))
    rw [w64 (x := i + 1) (by omega) (by omega)]
    exact ih (i + 1) (by omega) (by omega)
theorem eqMonitorS_ev (l : List S106) (hl : l.length ≤ 9223372036854775807) (hk : ∀ x ∈ l, fitMonitor x) : Ev (fun k => laws_eqMonitorS.f k l l) true := by
  unfold laws_eqMonitorS.f
  exact ev_pos rfl (eqMonitorS_l0 l hl hk l.length 0 (by omega) (by omega))
theorem eqProcessS_l0 (l : List S103) (hl : l.length ≤ 9223372036854775807) (hk : ∀ x ∈ l, fitProcess x) (n : Nat) : ∀ i : Int, 0 ≤ i → (l.length : Int) - i = n → Ev (fun k => laws_eqProcessS.l0 k l l i) true := by
  induction n with
  | zero =>
    intro i h0 hn
    refine ev_step ?_
    simp only [laws_eqProcessS.l0]
    exact ev_neg (by omega) (ev_ret _)
  | succ n ih =>
    intro i h0 hn
    refine ev_step ?_
    simp only [laws_eqProcessS.l0]
    have hm : rdOf z103 l i ∈ l := rdOf_mem h0 (by omega)
    refine ev_pos (by omega) (ev_pos h0 (ev_pos (by omega) (Ev.bind (eqProcess_ev (rdOf z103 l i) (hk _ hm)) (ev_pos rfl ?_))))
    rw [w64 (x := i + 1) (by omega) (by omega)]
    exact ih (i + 1) (by omega) (by omega)
theorem eqProcessS_ev (l : List S103) (hl : l.length ≤ 9223372036854775807) (hk : ∀ x ∈ l, fitProcess x) : Ev (fun k => laws_eqProcessS.f k l l) true := by
  unfold laws_eqProcessS.f
  exact ev_pos rfl (eqProcessS_l0 l hl hk l.length 0 (by omega) (by omega))
theorem eqProgram_ev (a : List S113) (b : List S117) (c : List S119) (h : okProg a b c) : Ev (fun k => laws_eqProgram.f k (a.map cNode) (b.map cMonitor) (c.map cProcess) (a.map cNode) (b.map cMonitor) (c.map cProcess)) true := by
  have h1 : ∀ x ∈ a.map cNode, fitNode x := by
    intro x hx
    obtain ⟨y, hy, rfl⟩ := List.mem_map.1 hx
    have := (h.1.2 y hy).2.2.2
    show y.f5.length ≤ 9223372036854775807
    omega
  have h2 : ∀ x ∈ b.map cMonitor, fitMonitor x := by
    intro x hx
    obtain ⟨y, hy, rfl⟩ := List.mem_map.1 hx
    obtain ⟨_, e1, _, e2, _, e3, _⟩ := h.2.1.2 y hy
    refine ⟨?_, ?_, ?_⟩
    · show y.f1.length ≤ 9223372036854775807
      omega
    · show y.f2.length ≤ 9223372036854775807
      omega
    · show (y.f3.map cEntry).length ≤ 9223372036854775807
      rw [List.length_map]
      omega
  have h3 : ∀ x ∈ c.map cProcess, fitProcess x := by
    intro x hx
    obtain ⟨y, hy, rfl⟩ := List.mem_map.1 hx
    obtain ⟨_, e1, _, e2, _⟩ := h.2.2.2 y hy
    refine ⟨?_, ?_⟩
    · show y.f1.length ≤ 9223372036854775807
      omega
    · show y.f2.length ≤ 9223372036854775807
      omega
  obtain ⟨⟨l1, _⟩, ⟨l2, _⟩, ⟨l3, _⟩⟩ := h
  unfold laws_eqProgram.f
  exact Ev.bind (eqNodeS_ev _ (by rw [List.length_map]; omega) h1) (ev_pos rfl (Ev.bind (eqMonitorS_ev _ (by rw [List.length_map]; omega) h2) (ev_pos rfl (Ev.bind (eqProcessS_ev _ (by rw [List.length_map]; omega) h3) (ev_pos rfl (ev_ret _))))))

theorem eqEnv_ev (ns : List ByteArray) (vs : List Int) (h1 : ns.length ≤ 9223372036854775807) (h2 : vs.length ≤ 9223372036854775807) : Ev (fun k => laws_eqEnv.f k ns vs ns vs) true := by
  unfold laws_eqEnv.f
  exact Ev.bind (eqStringS_ev ns h1) (ev_pos rfl (Ev.bind (eqIntS_ev vs h2) (ev_pos rfl (ev_ret _))))

theorem eqThread_ev (a : List Int) (ns : List ByteArray) (vs : List Int) (st : Int) (h0 : a.length ≤ 9223372036854775807) (h1 : ns.length ≤ 9223372036854775807) (h2 : vs.length ≤ 9223372036854775807) : Ev (fun k => laws_eqThread.f k a ns vs st a ns vs st) true := by
  unfold laws_eqThread.f
  exact Ev.bind (eqIntS_ev a h0) (ev_pos rfl (Ev.bind (eqEnv_ev ns vs h1 h2) (ev_pos rfl (ev_pos rfl (ev_ret _)))))

theorem spec_ThreadNew_l0 (ns : List ByteArray) (bd : Int) (hn : ns.length ≤ 1048576) : ∀ (d i : Nat), i + d = ns.length → Ev (fun k => spec_ThreadNew.l0 k ns i [bd] (ns.take i) (List.replicate i 0) 0) ([bd], ns, List.replicate ns.length 0, 0)
  | 0, i, hi => by
    refine ev_step ?_
    simp only [spec_ThreadNew.l0]
    have e : ns.length = i := by omega
    exact ev_neg (by omega) (ev_eq (by rw [List.take_of_length_le (by omega), e]) (ev_ret _))
  | d + 1, i, hi => by
    refine ev_step ?_
    simp only [spec_ThreadNew.l0]
    rw [w64 (x := (i : Int) + 1) (by omega) (by omega)]
    have ih := spec_ThreadNew_l0 ns bd hn d (i + 1) (by omega)
    have ht := take_rd ByteArray.empty (l := ns) (i := (i : Int)) (by omega) (by omega)
    rw [show ((i : Int) + 1).toNat = i + 1 by omega, show ((i : Int)).toNat = i by omega] at ht
    rw [ht, List.replicate_succ', show ((i + 1 : Nat) : Int) = (i : Int) + 1 by omega] at ih
    exact ev_pos (by omega) (ev_pos (by omega) (ev_pos (by rw [List.length_take]; omega) (ev_pos (by rw [List.length_replicate]; omega) ih)))
theorem spec_ThreadNew_ev (a : List S77) (b : List S106) (c : List S103) (bd : Int) (ns : List ByteArray) (hn : ns.length ≤ 1048576) : Ev (fun k => spec_ThreadNew.f k a b c bd ns) ([bd], ns, List.replicate ns.length 0, 0) := by
  unfold spec_ThreadNew.f
  exact spec_ThreadNew_l0 ns bd hn ns.length 0 (by omega)
theorem impl_ThreadNew_some (a : List S77) (b : List S106) (c : List S103) (bd : Int) (ns : List ByteArray) (hn : ns.length ≤ 1048576) : impl_ThreadNew.f a b c bd ns = some ([bd], ns, List.replicate ns.length 0, 0) := by
  unfold impl_ThreadNew.f
  rw [if_pos (by simp; omega), if_pos (by omega), if_pos (by omega)]
  simp

theorem markText_l0 (d : Nat) : ∀ (m : Int) (x : ByteArray), 0 ≤ m → m < 10 ^ d → x.size + d ≤ 1000 → m ≤ 9223372036854775807 → ∃ t, Ev (fun k => laws_markText.l0 k m x) t := by
  induction d with
  | zero =>
    intro m x h0 h1 hx _
    refine ⟨(⟨#[109]⟩ : ByteArray) ++ x, ev_step ?_⟩
    simp only [laws_markText.l0]
    exact ev_neg (by omega) (ev_pos (by omega) (ev_ret _))
  | succ d ih =>
    intro m x h0 h1 hx hm
    rw [Int.pow_succ] at h1
    by_cases c : m > 0
    · obtain ⟨t, ht⟩ := ih (m / 10) (strOfNums [(wrap64 (48 + (Int.tmod m 10))) % 256] ++ x) (by omega) (by omega) (by rw [ByteArray.size_append, strOfNums_size]; simp; omega) (by omega)
      refine ⟨t, ev_step ?_⟩
      simp only [laws_markText.l0]
      refine ev_pos c (ev_bindc rfl (ev_pos ?_ ?_))
      · rw [strOfNums_size]
        simp
        omega
      · rw [Int.tdiv_eq_ediv_of_nonneg h0, w64 (x := m / 10) (by omega) (by omega)]
        exact ht
    · refine ⟨(⟨#[109]⟩ : ByteArray) ++ x, ev_step ?_⟩
      simp only [laws_markText.l0]
      exact ev_neg c (ev_pos (by omega) (ev_ret _))
theorem markText_some (m : Int) (h0 : 0 ≤ m) (h1 : m ≤ 10000000000000) : ∃ t, Ev (fun k => laws_markText.f k m) t := by
  unfold laws_markText.f
  by_cases c : m ≤ 0
  · exact ⟨_, ev_pos c (ev_ret _)⟩
  · obtain ⟨t, ht⟩ := markText_l0 14 m ⟨#[]⟩ h0 (by omega) (by decide) (by omega)
    exact ⟨t, ev_neg c ht⟩
open Classical in
noncomputable def markT (m : Int) : ByteArray := if h : 0 ≤ m ∧ m ≤ 10000000000000 then Classical.choose (markText_some m h.1 h.2) else ByteArray.empty
theorem markT_ev (m : Int) (h0 : 0 ≤ m) (h1 : m ≤ 10000000000000) : Ev (fun k => laws_markText.f k m) (markT m) := by
  unfold markT
  rw [dif_pos ⟨h0, h1⟩]
  exact Classical.choose_spec (markText_some m h0 h1)

/-! The marks on a program: that they come to an end, and what number comes back. -/
theorem markInt_x (N : Nat) (hN : N ≤ 1048576) (d : Nat) : ∀ (l : List Int) (m : Int) (i : Nat), l.length = N → i + d = N → 0 ≤ m → m + d ≤ 10000000000000 → ∃ l', l'.length = N ∧ Ev (fun k => laws_markIntS.l0 k l m i) (m + d, l') := by
  induction d with
  | zero =>
    intro l m i hl hi h0 h1
    refine ⟨l, hl, ev_step ?_⟩
    simp only [laws_markIntS.l0]
    exact ev_neg (by omega) (ev_eq (by simp) (ev_ret _))
  | succ d ih =>
    intro l m i hl hi h0 h1
    obtain ⟨l', h2, h3⟩ := ih (l.set i m) (m + 1) (i + 1) (by simpa using hl) (by omega) (by omega) (by omega)
    refine ⟨l', h2, ev_step ?_⟩
    simp only [laws_markIntS.l0]
    refine ev_pos (by omega) (ev_pos (by omega) ?_)
    rw [w64 (x := m + 1) (by omega) (by omega), w64 (x := (i : Int) + 1) (by omega) (by omega)]
    rw [show m + 1 + (d : Int) = m + ((d + 1 : Nat) : Int) by omega, show ((i + 1 : Nat) : Int) = (i : Int) + 1 by omega] at h3
    exact h3
theorem markStr_x (N : Nat) (hN : N ≤ 1048576) (d : Nat) : ∀ (l : List ByteArray) (m : Int) (i : Nat), l.length = N → i + d = N → 0 ≤ m → m + d ≤ 10000000000000 → ∃ l', l'.length = N ∧ Ev (fun k => laws_markStringS.l0 k l m i) (m + d, l') := by
  induction d with
  | zero =>
    intro l m i hl hi h0 h1
    refine ⟨l, hl, ev_step ?_⟩
    simp only [laws_markStringS.l0]
    exact ev_neg (by omega) (ev_eq (by simp) (ev_ret _))
  | succ d ih =>
    intro l m i hl hi h0 h1
    obtain ⟨t, ht⟩ := markText_some m h0 (by omega)
    obtain ⟨l', h2, h3⟩ := ih (l.set i t) (m + 1) (i + 1) (by simpa using hl) (by omega) (by omega) (by omega)
    refine ⟨l', h2, ev_step ?_⟩
    simp only [laws_markStringS.l0]
    refine ev_pos (by omega) (Ev.bind ht (ev_pos (by omega) ?_))
    rw [w64 (x := m + 1) (by omega) (by omega), w64 (x := (i : Int) + 1) (by omega) (by omega)]
    rw [show m + 1 + (d : Int) = m + ((d + 1 : Nat) : Int) by omega, show ((i + 1 : Nat) : Int) = (i : Int) + 1 by omega] at h3
    exact h3
theorem markEntry_x (N : Nat) (hN : N ≤ 1048576) (d : Nat) : ∀ (l : List S131) (m : Int) (i : Nat), l.length = N → i + d = N → 0 ≤ m → m + 3 * d ≤ 10000000000000 → ∃ l', l'.length = N ∧ Ev (fun k => laws_markEntryS.l0 k l m i) (m + 3 * d, l') := by
  induction d with
  | zero =>
    intro l m i hl hi h0 h1
    refine ⟨l, hl, ev_step ?_⟩
    simp only [laws_markEntryS.l0]
    exact ev_neg (by omega) (ev_eq (by simp) (ev_ret _))
  | succ d ih =>
    intro l m i hl hi h0 h1
    obtain ⟨t, ht⟩ := markText_some m h0 (by omega)
    obtain ⟨u, hu⟩ := markText_some (m + 1) (by omega) (by omega)
    have key : ∀ l2 : List S131, l2.length = N → ∃ l', l'.length = N ∧ Ev (fun k => laws_markEntryS.l0 k l2 (m + 1 + 1 + 1) ((i : Int) + 1)) (m + 3 * ((d + 1 : Nat) : Int), l') := by
      intro l2 hl2
      obtain ⟨l', h2, h3⟩ := ih l2 (m + 1 + 1 + 1) (i + 1) hl2 (by omega) (by omega) (by omega)
      rw [show m + 1 + 1 + 1 + 3 * (d : Int) = m + 3 * ((d + 1 : Nat) : Int) by omega, show ((i + 1 : Nat) : Int) = (i : Int) + 1 by omega] at h3
      exact ⟨l', h2, h3⟩
    obtain ⟨y1, hy1⟩ : ∃ y1, y1 = l.set (i : Int).toNat (⟨t, (rd_T131 l i).f1, (rd_T131 l i).f2⟩ : S131) := ⟨_, rfl⟩
    obtain ⟨y2, hy2⟩ : ∃ y2, y2 = y1.set (i : Int).toNat (⟨(rd_T131 y1 i).f0, u, (rd_T131 y1 i).f2⟩ : S131) := ⟨_, rfl⟩
    obtain ⟨l', h2, h3⟩ := key (y2.set (i : Int).toNat (⟨(rd_T131 y2 i).f0, (rd_T131 y2 i).f1, m + 1 + 1⟩ : S131)) (by rw [List.length_set, hy2, List.length_set, hy1, List.length_set]; exact hl)
    refine ⟨l', h2, ev_step ?_⟩
    simp only [laws_markEntryS.l0]
    refine ev_pos (by omega) (Ev.bind ht (ev_pos (by omega) (ev_bindc rfl ?_)))
    rw [w64 (x := m + 1) (by omega) (by omega)]
    refine Ev.bind hu (ev_bindc rfl ?_)
    rw [w64 (x := m + 1 + 1) (by omega) (by omega), w64 (x := m + 1 + 1 + 1) (by omega) (by omega), w64 (x := (i : Int) + 1) (by omega) (by omega)]
    rw [hy2, hy1] at h3
    exact h3
theorem markNode_x (N : Nat) (hN : N ≤ 1048576) (d : Nat) : ∀ (l : List S77) (m : Int) (i : Nat), l.length = N → (∀ x ∈ l, x.f5.length ≤ 1048576) → i + d = N → 0 ≤ m → m + 1048581 * d ≤ 10000000000000 → ∃ r l', m ≤ r ∧ r ≤ m + 1048581 * d ∧ Ev (fun k => laws_markNodeS.l0 k l m i) (r, l') := by
  induction d with
  | zero =>
    intro l m i hl _ hi h0 h1
    refine ⟨m, l, by omega, by omega, ev_step ?_⟩
    simp only [laws_markNodeS.l0]
    exact ev_neg (by omega) (ev_ret _)
  | succ d ih =>
    intro l m i hl hf hi h0 h1
    have hx := hf _ (rdOf_mem (d := z77) (l := l) (i := (i : Int)) (by omega) (by omega))
    obtain ⟨t2, h2⟩ := markText_some (m + 1 + 1) (by omega) (by omega)
    obtain ⟨t3, h3⟩ := markText_some (m + 1 + 1 + 1) (by omega) (by omega)
    obtain ⟨t4, h4⟩ := markText_some (m + 1 + 1 + 1 + 1) (by omega) (by omega)
    obtain ⟨l5, h5, h6⟩ := markInt_x (rdOf z77 l (i : Int)).f5.length hx (rdOf z77 l (i : Int)).f5.length (rdOf z77 l (i : Int)).f5 (m + 1 + 1 + 1 + 1 + 1) 0 rfl (by omega) (by omega) (by omega)
    obtain ⟨r, l', q1, q2, q3⟩ := ih (l.set i ⟨m, m + 1, t2, t3, t4, l5⟩) (m + 1 + 1 + 1 + 1 + 1 + ((rdOf z77 l (i : Int)).f5.length : Int)) (i + 1) (by simpa using hl) (fun x hx2 => by
      rcases List.mem_or_eq_of_mem_set hx2 with h | rfl
      · exact hf x h
      · show l5.length ≤ 1048576
        omega) (by omega) (by omega) (by omega)
    refine ⟨r, l', by omega, by omega, ev_step ?_⟩
    simp only [laws_markNodeS.l0]
    rw [w64 (x := m + 1) (by omega) (by omega), w64 (x := m + 1 + 1) (by omega) (by omega), w64 (x := m + 1 + 1 + 1) (by omega) (by omega), w64 (x := m + 1 + 1 + 1 + 1) (by omega) (by omega), w64 (x := m + 1 + 1 + 1 + 1 + 1) (by omega) (by omega)]
    refine ev_pos (by omega) (ev_pos (by omega) (Ev.bind h2 (Ev.bind h3 (Ev.bind h4 (Ev.bind (a := (m + 1 + 1 + 1 + 1 + 1 + ((rdOf z77 l (i : Int)).f5.length : Int), l5)) ?_ ?_)))))
    · exact h6
    · rw [w64 (x := (i : Int) + 1) (by omega) (by omega)]
      rw [show ((i + 1 : Nat) : Int) = (i : Int) + 1 by omega] at q3
      exact q3
theorem markStrF_x (l : List ByteArray) (m : Int) (hl : l.length ≤ 1048576) (h0 : 0 ≤ m) (h1 : m + l.length ≤ 10000000000000) : ∃ l', l'.length = l.length ∧ Ev (fun k => laws_markStringS.f k l m) (m + l.length, l') := by
  obtain ⟨l', h2, h3⟩ := markStr_x l.length hl l.length l m 0 rfl (by omega) h0 h1
  exact ⟨l', h2, h3⟩
theorem markMonitor_x (N : Nat) (hN : N ≤ 1048576) (d : Nat) : ∀ (l : List S106) (m : Int) (i : Nat), l.length = N → (∀ x ∈ l, x.f1.length ≤ 1048576 ∧ x.f2.length ≤ 1048576 ∧ x.f3.length ≤ 1048576) → i + d = N → 0 ≤ m → m + 5242881 * d ≤ 10000000000000 → ∃ r l', m ≤ r ∧ r ≤ m + 5242881 * d ∧ Ev (fun k => laws_markMonitorS.l0 k l m i) (r, l') := by
  induction d with
  | zero =>
    intro l m i hl _ hi h0 h1
    refine ⟨m, l, by omega, by omega, ev_step ?_⟩
    simp only [laws_markMonitorS.l0]
    exact ev_neg (by omega) (ev_ret _)
  | succ d ih =>
    intro l m i hl hf hi h0 h1
    obtain ⟨x1, x2, x3⟩ := hf _ (rdOf_mem (d := z106) (l := l) (i := (i : Int)) (by omega) (by omega))
    obtain ⟨t, ht⟩ := markText_some m (by omega) (by omega)
    obtain ⟨l1, a1, b1⟩ := markStrF_x (rdOf z106 l (i : Int)).f1 (m + 1) x1 (by omega) (by omega)
    obtain ⟨l2, a2, b2⟩ := markStrF_x (rdOf z106 l (i : Int)).f2 (m + 1 + ((rdOf z106 l (i : Int)).f1.length : Int)) x2 (by omega) (by omega)
    obtain ⟨l3, a3, b3⟩ := markEntry_x (rdOf z106 l (i : Int)).f3.length x3 (rdOf z106 l (i : Int)).f3.length (rdOf z106 l (i : Int)).f3 (m + 1 + ((rdOf z106 l (i : Int)).f1.length : Int) + ((rdOf z106 l (i : Int)).f2.length : Int)) 0 rfl (by omega) (by omega) (by omega)
    obtain ⟨r, l', q1, q2, q3⟩ := ih (l.set i ⟨t, l1, l2, l3⟩) (m + 1 + ((rdOf z106 l (i : Int)).f1.length : Int) + ((rdOf z106 l (i : Int)).f2.length : Int) + 3 * ((rdOf z106 l (i : Int)).f3.length : Int)) (i + 1) (by simpa using hl) (fun x hx2 => by
      rcases List.mem_or_eq_of_mem_set hx2 with h | rfl
      · exact hf x h
      · exact ⟨by show l1.length ≤ 1048576; omega, by show l2.length ≤ 1048576; omega, by show l3.length ≤ 1048576; omega⟩) (by omega) (by omega) (by omega)
    refine ⟨r, l', by omega, by omega, ev_step ?_⟩
    simp only [laws_markMonitorS.l0]
    rw [w64 (x := m + 1) (by omega) (by omega)]
    refine ev_pos (by omega) (ev_pos (by omega) (Ev.bind ht (Ev.bind b1 (Ev.bind b2 (Ev.bind (a := (m + 1 + ((rdOf z106 l (i : Int)).f1.length : Int) + ((rdOf z106 l (i : Int)).f2.length : Int) + 3 * ((rdOf z106 l (i : Int)).f3.length : Int), l3)) ?_ ?_)))))
    · exact b3
    · rw [w64 (x := (i : Int) + 1) (by omega) (by omega)]
      rw [show ((i + 1 : Nat) : Int) = (i : Int) + 1 by omega] at q3
      exact q3
theorem markProcess_x (N : Nat) (hN : N ≤ 1048576) (d : Nat) : ∀ (l : List S103) (m : Int) (i : Nat), l.length = N → (∀ x ∈ l, x.f1.length ≤ 1048576 ∧ x.f2.length ≤ 1048576) → i + d = N → 0 ≤ m → m + 2097154 * d ≤ 10000000000000 → ∃ r l', m ≤ r ∧ r ≤ m + 2097154 * d ∧ Ev (fun k => laws_markProcessS.l0 k l m i) (r, l') := by
  induction d with
  | zero =>
    intro l m i hl _ hi h0 h1
    refine ⟨m, l, by omega, by omega, ev_step ?_⟩
    simp only [laws_markProcessS.l0]
    exact ev_neg (by omega) (ev_ret _)
  | succ d ih =>
    intro l m i hl hf hi h0 h1
    obtain ⟨x1, x2⟩ := hf _ (rdOf_mem (d := z103) (l := l) (i := (i : Int)) (by omega) (by omega))
    obtain ⟨t, ht⟩ := markText_some m (by omega) (by omega)
    obtain ⟨l1, a1, b1⟩ := markStrF_x (rdOf z103 l (i : Int)).f1 (m + 1) x1 (by omega) (by omega)
    obtain ⟨l2, a2, b2⟩ := markStrF_x (rdOf z103 l (i : Int)).f2 (m + 1 + ((rdOf z103 l (i : Int)).f1.length : Int)) x2 (by omega) (by omega)
    obtain ⟨r, l', q1, q2, q3⟩ := ih (l.set i ⟨t, l1, l2, m + 1 + ((rdOf z103 l (i : Int)).f1.length : Int) + ((rdOf z103 l (i : Int)).f2.length : Int)⟩) (m + 1 + ((rdOf z103 l (i : Int)).f1.length : Int) + ((rdOf z103 l (i : Int)).f2.length : Int) + 1) (i + 1) (by simpa using hl) (fun x hx2 => by
      rcases List.mem_or_eq_of_mem_set hx2 with h | rfl
      · exact hf x h
      · exact ⟨by show l1.length ≤ 1048576; omega, by show l2.length ≤ 1048576; omega⟩) (by omega) (by omega) (by omega)
    refine ⟨r, l', by omega, by omega, ev_step ?_⟩
    simp only [laws_markProcessS.l0]
    rw [w64 (x := m + 1) (by omega) (by omega)]
    refine ev_pos (by omega) (ev_pos (by omega) (Ev.bind ht (Ev.bind b1 (Ev.bind b2 ?_))))
    rw [w64 (x := m + 1 + ((rdOf z103 l (i : Int)).f1.length : Int) + ((rdOf z103 l (i : Int)).f2.length : Int) + 1) (by omega) (by omega), w64 (x := (i : Int) + 1) (by omega) (by omega)]
    rw [show ((i + 1 : Nat) : Int) = (i : Int) + 1 by omega] at q3
    exact q3
/-- All of a program's marks: the number that comes back is none below 0. -/
theorem markProgram_x (a : List S77) (b : List S106) (c : List S103) (ha : a.length ≤ 1048576) (ha2 : ∀ x ∈ a, x.f5.length ≤ 1048576) (hb : b.length ≤ 1048576) (hb2 : ∀ x ∈ b, x.f1.length ≤ 1048576 ∧ x.f2.length ≤ 1048576 ∧ x.f3.length ≤ 1048576)
    (hc : c.length ≤ 1048576) (hc2 : ∀ x ∈ c, x.f1.length ≤ 1048576 ∧ x.f2.length ≤ 1048576) : ∃ r, 0 ≤ r ∧ r ≤ 9000000000000 ∧ Ev (fun k => laws_markProgram.f k a b c 1) r := by
  obtain ⟨r1, l1, h1, h2, h3⟩ := markNode_x a.length ha a.length a 1 0 rfl ha2 (by omega) (by omega) (by omega)
  obtain ⟨r2, l2, h4, h5, h6⟩ := markMonitor_x b.length hb b.length b r1 0 rfl hb2 (by omega) (by omega) (by omega)
  obtain ⟨r3, l3, h7, h8, h9⟩ := markProcess_x c.length hc c.length c r2 0 rfl hc2 (by omega) (by omega) (by omega)
  refine ⟨r3, by omega, by omega, ?_⟩
  unfold laws_markProgram.f laws_markProgram.g
  exact Ev.bind (a := (r3, l1, l2, l3)) (Ev.bind (a := (r1, l1)) h3 (Ev.bind (a := (r2, l2)) h6 (Ev.bind (a := (r3, l3)) h9 (ev_ret _)))) (ev_ret _)
theorem markOk_x (pa : List S113) (pb : List S117) (pc : List S119) (h : okProg pa pb pc) : ∃ r, 0 ≤ r ∧ r ≤ 9000000000000 ∧ Ev (fun k => laws_markProgram.f k (pa.map cNode) (pb.map cMonitor) (pc.map cProcess) 1) r := by
  obtain ⟨⟨h1, h2⟩, ⟨h3, h4⟩, h5, h6⟩ := h
  refine markProgram_x _ _ _ (by simpa using h1) (fun x hx => ?_) (by simpa using h3) (fun x hx => ?_) (by simpa using h5) (fun x hx => ?_)
  · obtain ⟨y, hy, rfl⟩ := List.mem_map.1 hx
    exact (h2 y hy).2.2.2
  · obtain ⟨y, hy, rfl⟩ := List.mem_map.1 hx
    obtain ⟨_, e1, _, e2, _, e3, _⟩ := h4 y hy
    exact ⟨e1, e2, by show (y.f3.map cEntry).length ≤ 1048576; rw [List.length_map]; exact e3⟩
  · obtain ⟨y, hy, rfl⟩ := List.mem_map.1 hx
    obtain ⟨_, e1, _, e2, _⟩ := h6 y hy
    exact ⟨e1, e2⟩

/-- n marks from m on. -/
def upBy {α : Type} (f : Int → α) (m : Int) : Nat → List α
  | 0 => []
  | n + 1 => f m :: upBy f (m + 1) n
theorem upBy_length {α : Type} (f : Int → α) (n : Nat) : ∀ m : Int, (upBy f m n).length = n := by
  induction n with
  | zero => intro m; rfl
  | succ n ih => intro m; simp [upBy, ih]
theorem upBy_snoc {α : Type} (f : Int → α) (n : Nat) : ∀ m : Int, upBy f m n ++ [f (m + n)] = upBy f m (n + 1) := by
  induction n with
  | zero => intro m; simp [upBy]
  | succ n ih =>
    intro m
    have h := ih (m + 1)
    rw [show m + 1 + (n : Int) = m + ((n + 1 : Nat) : Int) by omega] at h
    show f m :: (upBy f (m + 1) n ++ [f (m + ((n + 1 : Nat) : Int))]) = f m :: upBy f (m + 1) (n + 1)
    rw [h]
theorem upBy_get {α : Type} (f : Int → α) : ∀ (N : Nat) (m : Int) (i : Nat), i < N → (upBy f m N)[i]? = some (f (m + i)) := by
  intro N
  induction N with
  | zero => intro m i h; omega
  | succ N ih =>
    intro m i h
    cases i with
    | zero => simp [upBy]
    | succ i =>
      simp only [upBy, List.getElem?_cons_succ]
      rw [ih (m + 1) i (by omega), show m + 1 + (i : Int) = m + ((i + 1 : Nat) : Int) by omega]
theorem upBy_rd {α : Type} (d : α) (f : Int → α) (m : Int) (N i : Nat) (h : i < N) : rdOf d (upBy f m N) i = f (m + i) := by
  unfold rdOf
  rw [List.getD_eq_getElem?_getD, show ((i : Int)).toNat = i by omega, upBy_get f N m i h]
  rfl

def upFrom (m : Int) (n : Nat) : List Int := upBy (fun x => x) m n
theorem upFrom_length (m : Int) (n : Nat) : (upFrom m n).length = n := upBy_length _ n m
theorem markIntS_l0 (m : Int) (N : Nat) (hN : N ≤ 1000000000) (hm : 0 ≤ m) (hm2 : m ≤ 9300000000000) (n : Nat) : ∀ (l : List Int) (i : Nat), l.length = N → i + n = N → l.take i = upFrom m i → Ev (fun k => laws_markIntS.l0 k l (m + i) i) (m + N, upFrom m N) := by
  induction n with
  | zero =>
    intro l i hl hn ht
    refine ev_step ?_
    simp only [laws_markIntS.l0]
    refine ev_neg (by omega) (ev_eq ?_ (ev_ret _))
    obtain rfl : i = N := by omega
    rw [List.take_of_length_le (by omega)] at ht
    rw [ht]
  | succ n ih =>
    intro l i hl hn ht
    refine ev_step ?_
    simp only [laws_markIntS.l0]
    refine ev_pos (by omega) (ev_pos (by omega) ?_)
    rw [w64 (x := m + (i : Int) + 1) (by omega) (by omega), w64 (x := (i : Int) + 1) (by omega) (by omega)]
    have h := ih (l.set i (m + i)) (i + 1) (by simpa using hl) (by omega) (by rw [set_take _ _ _ (by omega), ht]; exact upBy_snoc _ i m)
    rw [show m + ((i + 1 : Nat) : Int) = m + (i : Int) + 1 by omega, show ((i + 1 : Nat) : Int) = (i : Int) + 1 by omega] at h
    exact h
theorem markIntS_ev (l : List Int) (m : Int) (hl : l.length ≤ 1000000000) (hm : 0 ≤ m) (hm2 : m ≤ 9300000000000) : Ev (fun k => laws_markIntS.f k l m) (m + l.length, upFrom m l.length) := by
  unfold laws_markIntS.f
  have h := markIntS_l0 m l.length hl hm hm2 l.length l 0 rfl (by omega) rfl
  simpa using h
theorem heldIntS_l0 (m : Int) (N : Nat) (hN : N ≤ 1000000000) (hm : 0 ≤ m) (hm2 : m ≤ 9300000000000) (n : Nat) : ∀ (i : Nat), i + n = N → Ev (fun k => laws_heldIntS.l0 k (upFrom m N) (m + i) i) (m + N) := by
  have hl := upFrom_length m N
  induction n with
  | zero =>
    intro i hn
    refine ev_step ?_
    simp only [laws_heldIntS.l0]
    refine ev_neg (by omega) (ev_eq ?_ (ev_ret _))
    obtain rfl : i = N := by omega
    rfl
  | succ n ih =>
    intro i hn
    refine ev_step ?_
    simp only [laws_heldIntS.l0]
    refine ev_pos (by omega) (ev_pos (by omega) (ev_pos ?_ ?_))
    · rw [rd_rdOf]
      exact upBy_rd 0 _ m N i (by omega)
    · rw [w64 (x := m + (i : Int) + 1) (by omega) (by omega), w64 (x := (i : Int) + 1) (by omega) (by omega)]
      have h := ih (i + 1) (by omega)
      rw [show m + ((i + 1 : Nat) : Int) = m + (i : Int) + 1 by omega, show ((i + 1 : Nat) : Int) = (i : Int) + 1 by omega] at h
      exact h
theorem heldIntS_ev (m : Int) (N : Nat) (hN : N ≤ 1000000000) (hm : 0 ≤ m) (hm2 : m ≤ 9300000000000) : Ev (fun k => laws_heldIntS.f k (upFrom m N) m) (m + N) := by
  unfold laws_heldIntS.f
  have h := heldIntS_l0 m N hN hm hm2 N 0 (by omega)
  simpa using h

noncomputable def upText (m : Int) (n : Nat) : List ByteArray := upBy markT m n
theorem upText_length (m : Int) (n : Nat) : (upText m n).length = n := upBy_length _ n m
theorem markStringS_l0 (m : Int) (N : Nat) (hN : N ≤ 1000000000) (hm : 0 ≤ m) (hm2 : m ≤ 9300000000000) (n : Nat) : ∀ (l : List ByteArray) (i : Nat), l.length = N → i + n = N → l.take i = upText m i → Ev (fun k => laws_markStringS.l0 k l (m + i) i) (m + N, upText m N) := by
  induction n with
  | zero =>
    intro l i hl hn ht
    refine ev_step ?_
    simp only [laws_markStringS.l0]
    refine ev_neg (by omega) (ev_eq ?_ (ev_ret _))
    obtain rfl : i = N := by omega
    rw [List.take_of_length_le (by omega)] at ht
    rw [ht]
  | succ n ih =>
    intro l i hl hn ht
    refine ev_step ?_
    simp only [laws_markStringS.l0]
    refine ev_pos (by omega) (Ev.bind (markT_ev (m + i) (by omega) (by omega)) (ev_pos (by omega) ?_))
    rw [w64 (x := m + (i : Int) + 1) (by omega) (by omega), w64 (x := (i : Int) + 1) (by omega) (by omega)]
    have h := ih (l.set i (markT (m + i))) (i + 1) (by simpa using hl) (by omega) (by rw [set_take _ _ _ (by omega), ht]; exact upBy_snoc _ i m)
    rw [show m + ((i + 1 : Nat) : Int) = m + (i : Int) + 1 by omega, show ((i + 1 : Nat) : Int) = (i : Int) + 1 by omega] at h
    exact h
theorem markStringS_ev (l : List ByteArray) (m : Int) (hl : l.length ≤ 1000000000) (hm : 0 ≤ m) (hm2 : m ≤ 9300000000000) : Ev (fun k => laws_markStringS.f k l m) (m + l.length, upText m l.length) := by
  unfold laws_markStringS.f
  have h := markStringS_l0 m l.length hl hm hm2 l.length l 0 rfl (by omega) rfl
  simpa using h

theorem heldStringS_l0 (m : Int) (N : Nat) (hN : N ≤ 1000000000) (hm : 0 ≤ m) (hm2 : m ≤ 9300000000000) (n : Nat) : ∀ (i : Nat), i + n = N → Ev (fun k => laws_heldStringS.l0 k (upText m N) (m + i) i) (m + N) := by
  have hl := upText_length m N
  induction n with
  | zero =>
    intro i hn
    refine ev_step ?_
    simp only [laws_heldStringS.l0]
    refine ev_neg (by omega) (ev_eq ?_ (ev_ret _))
    obtain rfl : i = N := by omega
    rfl
  | succ n ih =>
    intro i hn
    refine ev_step ?_
    simp only [laws_heldStringS.l0]
    refine ev_pos (by omega) (ev_pos (by omega) (Ev.bind (markT_ev (m + i) (by omega) (by omega)) (ev_pos ?_ ?_)))
    · rw [show rdOf ByteArray.empty (upText m N) (i : Int) = markT (m + i) from upBy_rd _ _ m N i (by omega)]
    · rw [w64 (x := m + (i : Int) + 1) (by omega) (by omega), w64 (x := (i : Int) + 1) (by omega) (by omega)]
      have h := ih (i + 1) (by omega)
      rw [show m + ((i + 1 : Nat) : Int) = m + (i : Int) + 1 by omega, show ((i + 1 : Nat) : Int) = (i : Int) + 1 by omega] at h
      exact h
theorem heldStringS_ev (m : Int) (N : Nat) (hN : N ≤ 1000000000) (hm : 0 ≤ m) (hm2 : m ≤ 9300000000000) : Ev (fun k => laws_heldStringS.f k (upText m N) m) (m + N) := by
  unfold laws_heldStringS.f
  have h := heldStringS_l0 m N hN hm hm2 N 0 (by omega)
  simpa using h

theorem markEnv_ev (ns : List ByteArray) (vs : List Int) (m : Int) (h1 : ns.length ≤ 10000000) (h2 : vs.length ≤ 10000000) (hm : 0 ≤ m) (hm2 : m ≤ 9200000000000) :
    Ev (fun k => laws_markEnv.f k ns vs m) (m + ns.length + vs.length, upText m ns.length, upFrom (m + ns.length) vs.length) := by
  unfold laws_markEnv.f
  exact Ev.bind (markStringS_ev ns m (by omega) hm (by omega)) (Ev.bind (markIntS_ev vs (m + ns.length) (by omega) (by omega) (by omega)) (ev_ret _))
theorem heldEnv_ev (a b : Nat) (m : Int) (h1 : a ≤ 10000000) (h2 : b ≤ 10000000) (hm : 0 ≤ m) (hm2 : m ≤ 9200000000000) :
    Ev (fun k => laws_heldEnv.f k (upText m a) (upFrom (m + a) b) m) (m + a + b) := by
  unfold laws_heldEnv.f
  exact Ev.bind (heldStringS_ev m a (by omega) hm (by omega)) (ev_neg (by omega) (Ev.bind (heldIntS_ev (m + a) b (by omega) (by omega) (by omega)) (ev_neg (by omega) (ev_ret _))))

theorem markThread_ev (a : List Int) (ns : List ByteArray) (vs : List Int) (st : Int) (m : Int) (h0 : a.length ≤ 10000000) (h1 : ns.length ≤ 10000000) (h2 : vs.length ≤ 10000000) (hm : 0 ≤ m) (hm2 : m ≤ 9100000000000) :
    Ev (fun k => laws_markThread.f k a ns vs st m) (m + a.length + ns.length + vs.length, upFrom m a.length, upText (m + a.length) ns.length, upFrom (m + a.length + ns.length) vs.length) := by
  unfold laws_markThread.f
  exact Ev.bind (markIntS_ev a m (by omega) (by omega) (by omega)) (Ev.bind (markEnv_ev ns vs (m + a.length) h1 h2 (by omega) (by omega)) (ev_ret _))
theorem heldThread_ev (a b c : Nat) (st : Int) (m : Int) (h0 : a ≤ 10000000) (h1 : b ≤ 10000000) (h2 : c ≤ 10000000) (hm : 0 ≤ m) (hm2 : m ≤ 9100000000000) :
    Ev (fun k => laws_heldThread.f k (upFrom m a) (upText (m + a) b) (upFrom (m + a + b) c) st m) (m + a + b + c) := by
  unfold laws_heldThread.f
  exact Ev.bind (heldIntS_ev m a (by omega) hm (by omega)) (ev_neg (by omega) (Ev.bind (heldEnv_ev b c (m + a) h1 h2 (by omega) (by omega)) (ev_neg (by omega) (ev_ret _))))

theorem FnExactThreadNew : Go.Proofs.Ytmbkcbgbienjoaa.OpnFnExactThreadNew.Pure := by
  intro pa pb pc m ns ga gb gc _ ⟨h1, h2⟩
  refine Ev.rounds ?_
  unfold laws_FnExactThreadNew.f
  obtain ⟨r, hr, hrle, hrx⟩ := szProgram_ev pa pb pc ga gb gc 1048576 (by omega) (by omega)
  refine Ev.bind hr ?_
  by_cases c : r < 0
  · exact ev_pos c (ev_ret _)
  · refine ev_neg c ?_
    have hp := hrx (by omega)
    obtain ⟨q, hq, _, hx⟩ := szStringS_ev ns h1 h2 r (by omega) (by omega)
    refine Ev.bind hq ?_
    by_cases c2 : q < 0
    · exact ev_pos c2 (ev_ret _)
    · obtain ⟨e1, _⟩ := hx (by omega)
      have hn : ns.length ≤ 1048576 := by omega
      have tp := toProgram_ev pa pb pc hp
      have ep := eqProgram_ev pa pb pc hp
      obtain ⟨g, g0, g1, mk⟩ := markOk_x pa pb pc hp
      generalize pa.map cNode = a at tp ep mk
      generalize pb.map cMonitor = b at tp ep mk
      generalize pc.map cProcess = c at tp ep mk
      have ts := toStringS_ev ns hn
      have es := eqStringS_ev ns (by omega)
      have hs := spec_ThreadNew_ev a b c m ns hn
      have hi := impl_ThreadNew_some a b c m ns hn
      obtain ⟨l', _, ms⟩ := markStrF_x ns g hn g0 (by omega)
      have hv : (List.replicate ns.length (0 : Int)).length = ns.length := List.length_replicate
      generalize List.replicate ns.length (0 : Int) = vs at hs hi hv
      have he := eqThread_ev [m] ns vs 0 (by simp) (by omega) (by omega)
      have hm := markThread_ev [m] ns vs 0 1 (by simp) (by omega) (by omega) (by omega) (by omega)
      have hh := heldThread_ev 1 ns.length vs.length 0 1 (by omega) (by omega) (by omega) (by omega) (by omega)
      refine ev_neg c2 (Ev.bind tp (Ev.bind ts (Ev.bind hs (Ev.bind tp (Ev.bind ts (ev_bindc hi (Ev.bind he (ev_pos rfl (Ev.bind tp (Ev.bind ep (ev_pos rfl (Ev.bind ts (Ev.bind es (ev_pos rfl (Ev.bind mk (Ev.bind ms (ev_neg (by show ¬ g + (ns.length : Int) < 0; omega) (Ev.bind he ?_))))))))))))))))))
      refine ev_step ?_
      simp only [laws_FnExactThreadNew.j0]
      exact ev_neg (by simp) (Ev.bind hm (Ev.bind hh (ev_neg (by omega) (ev_pos rfl (Ev.bind tp (Ev.bind ts (ev_bindc hi (Ev.bind he (ev_pos rfl (Ev.bind hh (ev_neg (by omega) (ev_pos rfl (ev_ret _)))))))))))))

end Go.Proofs.Ytmbkcbgbienjoaa.Pure
