/- The program's Together answers as the reference's at every two environments, leaves both as they were, and its answer owns its memory. No condition beyond the law's own bound. -/
import Derived.Test.YtegeahiflkjhmaaOpnFnExactTogether
set_option linter.unusedVariables false
set_option linter.unusedSimpArgs false
namespace Go.Proofs.Ytegeahiflkjhmaa.Pure
open Go.RowKit Go.Proofs.Ytegeahiflkjhmaa.PFnExactTogether Go.Proofs.YtegeahiflkjhmaaW.PrintWords Go.Proofs.YtegeahiflkjhmaaW.PrintLast Go.Proofs.YtegeahiflkjhmaaW.PrintMore Go.Proofs.Ytegeahiflkjhmaa.Opn Go.Proofs.Ytegeahiflkjhmaa.OpnFnExactTogether

theorem w64 {x : Int} (h0 : -9223372036854775808 ≤ x) (h1 : x ≤ 9223372036854775807) : wrap64 x = x := by
  unfold wrap64
  omega
theorem wf_i64 {x : Int} (h : (Lit.int .i64 x).wf = true) : -9223372036854775808 ≤ x ∧ x ≤ 9223372036854775807 := by
  simp [Lit.wf, IntKind.min, IntKind.max, IntKind.signed, IntKind.bits] at h
  omega

instance lawBA : LawfulBEq ByteArray where
  eq_of_beq {a b} h := by
    cases a
    cases b
    congr 1
    exact eq_of_beq (α := Array UInt8) h
  rfl {a} := by
    cases a
    exact BEq.rfl (α := Array UInt8)

/-! Rounds -/
theorem ev_step {α : Type} {g : Nat → Option α} {r : α} (h : Ev (fun k => g (k + 1)) r) : Ev g r := Ev.step (fun _ => rfl) h
theorem ev_ret {α : Type} (r : α) : Ev (fun _ => some r) r := ⟨0, fun _ _ => rfl⟩
theorem ev_pos {α : Type} {c : Prop} [Decidable c] {g f : Nat → Option α} {r : α} (h : c) (k : Ev g r) : Ev (fun n => if c then g n else f n) r :=
  Ev.congr (fun _ => if_pos h) k
theorem ev_neg {α : Type} {c : Prop} [Decidable c] {g f : Nat → Option α} {r : α} (h : ¬ c) (k : Ev f r) : Ev (fun n => if c then g n else f n) r :=
  Ev.congr (fun _ => if_neg h) k
theorem ev_bindc {α β : Type} {x : Option α} {f : Nat → α → Option β} {a : α} {r : β} (h : x = some a) (k : Ev (fun n => f n a) r) : Ev (fun n => x.bind (f n)) r := by
  subst h
  exact k
theorem ev_rpos {α : Type} {c : Prop} [Decidable c] {g : Nat → Option α} {a b : α} (h : c) (k : Ev g a) : Ev g (if c then a else b) := by
  rw [if_pos h]
  exact k
theorem ev_rneg {α : Type} {c : Prop} [Decidable c] {g : Nat → Option α} {a b : α} (h : ¬ c) (k : Ev g b) : Ev g (if c then a else b) := by
  rw [if_neg h]
  exact k
theorem ev_eq {α : Type} {g : Nat → Option α} {r r' : α} (h : r = r') (k : Ev g r) : Ev g r' := h ▸ k

/-! Lists and texts as lists of numbers -/
def bs (s : ByteArray) : List Int := s.data.toList.map fun c => (c.toNat : Int)
theorem bs_length (s : ByteArray) : (bs s).length = s.size := by
  unfold bs
  rw [List.length_map, Array.length_toList]
  rfl
theorem bs_range {s : ByteArray} {x : Int} (h : x ∈ bs s) : 0 ≤ x ∧ x < 256 := by
  unfold bs at h
  obtain ⟨c, _, rfl⟩ := List.mem_map.1 h
  have := c.toNat_lt
  omega
theorem bs_inj {a b : ByteArray} (h : bs a = bs b) : a = b := by
  have h2 : a.data.toList = b.data.toList := by
    have h3 := congrArg (List.map fun n : Int => UInt8.ofNat n.toNat) h
    unfold bs at h3
    rw [List.map_map, List.map_map] at h3
    have e : ∀ l : List UInt8, l.map ((fun n : Int => UInt8.ofNat n.toNat) ∘ fun c => (c.toNat : Int)) = l := by
      intro l
      induction l with
      | nil => rfl
      | cons c l ih =>
        rw [List.map_cons, ih]
        simp
    rwa [e, e] at h3
  cases a
  cases b
  congr 1
  exact Array.toList_inj.1 h2
theorem toList_eq_iff {a b : ByteArray} : a.toList = b.toList ↔ a = b := by
  constructor
  · intro h
    rw [ByteArray.toList_eq, ByteArray.toList_eq] at h
    cases a
    cases b
    congr 1
    exact Array.toList_inj.1 h
  · rintro rfl
    rfl
theorem drop_rd {α : Type} {d : α} {l : List α} {i : Int} (h0 : 0 ≤ i) (h1 : i < l.length) : l.drop i.toNat = rdOf d l i :: l.drop (i + 1).toNat := by
  have h2 : i.toNat < l.length := by omega
  rw [List.drop_eq_getElem_cons h2]
  unfold rdOf
  rw [List.getD_eq_getElem?_getD, List.getElem?_eq_getElem h2, show (i + 1).toNat = i.toNat + 1 by omega]
  rfl
theorem drop_end {α : Type} {l : List α} {i : Int} (h0 : 0 ≤ i) (h1 : ¬ i < l.length) : l.drop i.toNat = [] := List.drop_eq_nil_of_le (by omega)
theorem bs_rd {s : ByteArray} {i : Int} (h0 : 0 ≤ i) (h1 : i < s.size) : rdOf 0 (bs s) i = bt s i := by
  have h2 : i.toNat < s.size := by omega
  have h3 : i.toNat < s.data.toList.length := by
    rw [Array.length_toList]
    exact h2
  unfold rdOf bs bt
  rw [List.getD_eq_getElem?_getD, List.getElem?_map, List.getElem?_eq_getElem h3, dif_pos h2]
  rfl
theorem bs_drop {s : ByteArray} {i : Int} (h0 : 0 ≤ i) (h1 : i < s.size) : (bs s).drop i.toNat = bt s i :: (bs s).drop (i + 1).toNat := by
  rw [drop_rd (d := 0) h0 (by rw [bs_length]; exact h1), bs_rd h0 h1]
theorem bs_end {s : ByteArray} {i : Int} (h0 : 0 ≤ i) (h1 : ¬ i < s.size) : (bs s).drop i.toNat = [] := drop_end h0 (by rw [bs_length]; exact h1)
theorem strOf_bs (s : ByteArray) : strOfNums (bs s) = s := by
  have e : (bs s).map (fun n => UInt8.ofNat n.toNat) = s.data.toList := by
    unfold bs
    rw [List.map_map]
    conv => rhs; rw [← List.map_id s.data.toList]
    exact List.map_congr_left fun c _ => by simp
  unfold strOfNums
  rw [e]
theorem bs_strOf {l : List Int} (h : ∀ x ∈ l, 0 ≤ x ∧ x < 256) : bs (strOfNums l) = l := by
  unfold bs strOfNums
  rw [List.map_map]
  conv => rhs; rw [← List.map_id l]
  refine List.map_congr_left fun x hx => ?_
  obtain ⟨h0, h1⟩ := h x hx
  simp only [Function.comp_apply, UInt8.toNat_ofNat', id_eq]
  omega
theorem bs_append (a b : ByteArray) : bs (a ++ b) = bs a ++ bs b := by simp [bs]
theorem strOf_append (a b : List Int) : strOfNums (a ++ b) = strOfNums a ++ strOfNums b := by
  cases h : strOfNums a ++ strOfNums b
  rename_i d
  have := congrArg ByteArray.data h
  simp only [ByteArray.data_append] at this
  unfold strOfNums at this ⊢
  simp only [← this]
  simp
theorem ev_id {α : Type} {g : Nat → Option α} {r : α} (h : ∀ k, g k = some r) : Ev g r := ⟨0, fun k _ => h k⟩

theorem set_take {α : Type} (l : List α) (i : Nat) (x : α) (h : i < l.length) : (l.set i x).take (i + 1) = l.take i ++ [x] := by
  apply List.ext_getElem?
  intro j
  rcases Nat.lt_trichotomy j i with hj | hj | hj
  · rw [List.getElem?_take_of_lt (by omega), List.getElem?_set_ne (by omega), List.getElem?_append_left (by simp; omega), List.getElem?_take_of_lt hj]
  · subst hj
    rw [List.getElem?_take_of_lt (by omega), List.getElem?_set_self h, List.getElem?_append_right (by simp; omega)]
    simp [Nat.min_eq_left (Nat.le_of_lt h)]
  · rw [List.getElem?_eq_none (by simp; omega), List.getElem?_eq_none (by simp; omega)]
theorem take_rd {α : Type} (d : α) {l : List α} {i : Int} (h0 : 0 ≤ i) (h1 : i < l.length) : l.take (i + 1).toNat = l.take i.toNat ++ [rdOf d l i] := by
  have h2 : i.toNat < l.length := by omega
  rw [show (i + 1).toNat = i.toNat + 1 by omega, List.take_succ_eq_append_getElem h2]
  unfold rdOf
  rw [List.getD_eq_getElem?_getD, List.getElem?_eq_getElem h2]
  rfl
theorem rd_rdOf (l : List Int) (i : Int) : rd l i = rdOf 0 l i := rfl
theorem rdOf_mem {α : Type} {d : α} {l : List α} {i : Int} (h0 : 0 ≤ i) (h1 : i < l.length) : rdOf d l i ∈ l := by
  unfold rdOf
  rw [List.getD_eq_getElem?_getD, List.getElem?_eq_getElem (show i.toNat < l.length by omega)]
  exact List.getElem_mem _
/-- A copy made element by element, one round. -/
theorem copy_step {α : Type} (d : α) {src acc : List α} {i : Int} (h0 : 0 ≤ i) (h1 : i < src.length) (hl : acc.length = src.length) (ht : acc.take i.toNat = src.take i.toNat) :
    (acc.set i.toNat (rdOf d src i)).length = src.length ∧ (acc.set i.toNat (rdOf d src i)).take (i + 1).toNat = src.take (i + 1).toNat := by
  refine ⟨by simpa using hl, ?_⟩
  rw [take_rd d h0 h1, ← ht, show (i + 1).toNat = i.toNat + 1 by omega, set_take _ _ _ (by omega)]
theorem copy_end {α : Type} {src acc : List α} {i : Int} (h0 : 0 ≤ i) (h1 : ¬ i < src.length) (hl : acc.length = src.length) (ht : acc.take i.toNat = src.take i.toNat) : acc = src := by
  rw [List.take_of_length_le (by omega), List.take_of_length_le (by omega)] at ht
  exact ht

theorem szStringS_l0 (l : List ByteArray) (hl : l.length ≤ 1048576) (hs : ∀ x ∈ l, x.size ≤ 9223372036854775807) (n : Nat) : ∀ (left i : Int), 0 ≤ left → left ≤ 1048576 → 0 ≤ i → (l.length : Int) - i = n →
    ∃ r, Ev (fun k => laws_szStringS.l0 k l left i) r ∧ r ≤ left ∧ (0 ≤ r → ∀ x ∈ l.drop i.toNat, (x.size : Int) ≤ left) := by
  induction n with
  | zero =>
    intro left i h0 h1 hi hn
    refine ⟨left, ev_step ?_, Int.le_refl _, fun _ x hx => ?_⟩
    · simp only [laws_szStringS.l0]
      exact ev_neg (by omega) (ev_ret _)
    · rw [drop_end hi (by omega)] at hx
      cases hx
  | succ n ih =>
    intro left i h0 h1 hi hn
    have hz := hs _ (rdOf_mem (d := ByteArray.empty) (l := l) hi (by omega))
    rw [drop_rd (d := ByteArray.empty) (l := l) hi (by omega)]
    have step : ∀ r, Ev (fun k => if (wrap64 (left - ((rdOf ByteArray.empty l i).size : Int))) < 0 then (some (-1)) else (laws_szStringS.l0 k l (wrap64 (left - ((rdOf ByteArray.empty l i).size : Int))) (wrap64 (i + 1)))) r → Ev (fun k => laws_szStringS.l0 k l left i) r := by
      intro r h
      refine ev_step ?_
      simp only [laws_szStringS.l0]
      exact ev_pos (by omega) (ev_pos hi h)
    generalize rdOf ByteArray.empty l i = y at hz step ⊢
    rw [w64 (x := left - (y.size : Int)) (by omega) (by omega), w64 (x := i + 1) (by omega) (by omega)] at step
    by_cases c : left - (y.size : Int) < 0
    · exact ⟨-1, step _ (ev_pos c (ev_ret _)), by omega, fun h => by omega⟩
    · obtain ⟨r, hr, hle, hx⟩ := ih (left - y.size) (i + 1) (by omega) (by omega) (by omega) (by omega)
      refine ⟨r, step _ (ev_neg c hr), by omega, fun h x hm => ?_⟩
      rcases List.mem_cons.1 hm with rfl | hm
      · omega
      · have := hx h x hm
        omega
theorem szStringS_ev (l : List ByteArray) (hl : l.length ≤ 9223372036854775807) (hs : ∀ x ∈ l, x.size ≤ 9223372036854775807) (left : Int) (h0 : 0 ≤ left) (h1 : left ≤ 1048576) :
    ∃ r, Ev (fun k => laws_szStringS.f k l left) r ∧ r ≤ left ∧ (0 ≤ r → (l.length : Int) ≤ left ∧ ∀ x ∈ l, (x.size : Int) ≤ left) := by
  unfold laws_szStringS.f
  rw [w64 (x := left - (l.length : Int)) (by omega) (by omega)]
  by_cases c : left - (l.length : Int) < 0
  · exact ⟨-1, ev_pos c (ev_ret _), by omega, fun h => by omega⟩
  · obtain ⟨r, hr, hle, hx⟩ := szStringS_l0 l (by omega) hs l.length (left - l.length) 0 (by omega) (by omega) (by omega) (by omega)
    refine ⟨r, ev_neg c hr, by omega, fun h => ⟨by omega, fun x hm => ?_⟩⟩
    have := hx h x (by simpa using hm)
    omega

theorem szIntS_some (l : List Int) (hl : l.length ≤ 9223372036854775807) (left : Int) (h0 : 0 ≤ left) (h1 : left ≤ 1048576) :
    ∃ r, laws_szIntS.f l left = some r ∧ r ≤ left ∧ (0 ≤ r → (l.length : Int) ≤ left) := by
  unfold laws_szIntS.f
  rw [w64 (x := left - (l.length : Int)) (by omega) (by omega)]
  by_cases c : left - (l.length : Int) < 0
  · exact ⟨-1, if_pos c, by omega, fun h => by omega⟩
  · exact ⟨left - l.length, if_neg c, by omega, fun h => by omega⟩

theorem toStringS_l0 (src : List ByteArray) (hl : src.length ≤ 1048576) (n : Nat) : ∀ (acc : List ByteArray) (i : Int), 0 ≤ i → (src.length : Int) - i = n → acc.length = src.length → acc.take i.toNat = src.take i.toNat → Ev (fun k => laws_toStringS.l0 k src acc i) src := by
  induction n with
  | zero =>
    intro acc i h0 hn ha ht
    refine ev_step ?_
    simp only [laws_toStringS.l0]
    exact ev_neg (by omega) (ev_eq (copy_end h0 (by omega) ha ht) (ev_ret _))
  | succ n ih =>
    intro acc i h0 hn ha ht
    refine ev_step ?_
    simp only [laws_toStringS.l0]
    obtain ⟨h2, h3⟩ := copy_step ByteArray.empty h0 (by omega) ha ht
    refine ev_pos (by omega) (ev_pos h0 (ev_pos (by omega) ?_))
    rw [w64 (x := i + 1) (by omega) (by omega)]
    exact ih _ (i + 1) (by omega) (by omega) h2 h3
theorem toStringS_ev (src : List ByteArray) (hl : src.length ≤ 1048576) : Ev (fun k => laws_toStringS.f k src) src := by
  unfold laws_toStringS.f
  exact ev_pos (by omega) (ev_pos (by omega) (toStringS_l0 src hl src.length _ 0 (by omega) (by omega) (by simp) rfl))

theorem toIntS_l0 (src : List Int) (hl : src.length ≤ 1048576) (n : Nat) : ∀ (acc : List Int) (i : Int), 0 ≤ i → (src.length : Int) - i = n → acc.length = src.length → acc.take i.toNat = src.take i.toNat → Ev (fun k => laws_toIntS.l0 k src acc i) src := by
  induction n with
  | zero =>
    intro acc i h0 hn ha ht
    refine ev_step ?_
    simp only [laws_toIntS.l0]
    exact ev_neg (by omega) (ev_eq (copy_end h0 (by omega) ha ht) (ev_ret _))
  | succ n ih =>
    intro acc i h0 hn ha ht
    refine ev_step ?_
    simp only [laws_toIntS.l0, rd_rdOf]
    obtain ⟨h2, h3⟩ := copy_step 0 h0 (by omega) ha ht
    refine ev_pos (by omega) (ev_pos h0 (ev_pos (by omega) ?_))
    rw [w64 (x := i + 1) (by omega) (by omega)]
    exact ih _ (i + 1) (by omega) (by omega) h2 h3
theorem toIntS_ev (src : List Int) (hl : src.length ≤ 1048576) : Ev (fun k => laws_toIntS.f k src) src := by
  unfold laws_toIntS.f
  exact ev_pos (by omega) (ev_pos (by omega) (toIntS_l0 src hl src.length _ 0 (by omega) (by omega) (by simp) rfl))

theorem eqStringS_l0 (l : List ByteArray) (hl : l.length ≤ 9223372036854775807) (n : Nat) : ∀ i : Int, 0 ≤ i → (l.length : Int) - i = n → Ev (fun k => laws_eqStringS.l0 k l l i) true := by
  induction n with
  | zero =>
    intro i h0 hn
    refine ev_step ?_
    simp only [laws_eqStringS.l0]
    exact ev_neg (by omega) (ev_ret _)
  | succ n ih =>
    intro i h0 hn
    refine ev_step ?_
    simp only [laws_eqStringS.l0]
    refine ev_pos (by omega) (ev_pos h0 (ev_pos (by omega) (ev_pos (by simp) ?_)))
    rw [w64 (x := i + 1) (by omega) (by omega)]
    exact ih (i + 1) (by omega) (by omega)
theorem eqStringS_ev (l : List ByteArray) (hl : l.length ≤ 9223372036854775807) : Ev (fun k => laws_eqStringS.f k l l) true := by
  unfold laws_eqStringS.f
  exact ev_pos rfl (eqStringS_l0 l hl l.length 0 (by omega) (by omega))

theorem eqIntS_l0 (l : List Int) (hl : l.length ≤ 9223372036854775807) (n : Nat) : ∀ i : Int, 0 ≤ i → (l.length : Int) - i = n → Ev (fun k => laws_eqIntS.l0 k l l i) true := by
  induction n with
  | zero =>
    intro i h0 hn
    refine ev_step ?_
    simp only [laws_eqIntS.l0]
    exact ev_neg (by omega) (ev_ret _)
  | succ n ih =>
    intro i h0 hn
    refine ev_step ?_
    simp only [laws_eqIntS.l0]
    refine ev_pos (by omega) (ev_pos h0 (ev_pos (by omega) (ev_pos (by simp) ?_)))
    rw [w64 (x := i + 1) (by omega) (by omega)]
    exact ih (i + 1) (by omega) (by omega)
theorem eqIntS_ev (l : List Int) (hl : l.length ≤ 9223372036854775807) : Ev (fun k => laws_eqIntS.f k l l) true := by
  unfold laws_eqIntS.f
  exact ev_pos rfl (eqIntS_l0 l hl l.length 0 (by omega) (by omega))

theorem szEnv_ev (ns : List ByteArray) (vs : List Int) (h1 : ns.length ≤ 9223372036854775807) (h2 : ∀ x ∈ ns, x.size ≤ 9223372036854775807) (h3 : vs.length ≤ 9223372036854775807) (left : Int) (g0 : 0 ≤ left) (g1 : left ≤ 1048576) :
    ∃ r, Ev (fun k => laws_szEnv.f k ns vs left) r ∧ r ≤ left ∧ (0 ≤ r → (ns.length : Int) ≤ left ∧ (∀ x ∈ ns, (x.size : Int) ≤ left) ∧ (vs.length : Int) ≤ left) := by
  unfold laws_szEnv.f
  obtain ⟨r, hr, hle, hx⟩ := szStringS_ev ns h1 h2 left g0 g1
  by_cases c : r < 0
  · exact ⟨-1, Ev.bind hr (ev_pos c (ev_ret _)), by omega, fun h => by omega⟩
  · obtain ⟨q, hq, hle2, hx2⟩ := szIntS_some vs h3 r (by omega) (by omega)
    obtain ⟨e1, e2⟩ := hx (by omega)
    by_cases c2 : q < 0
    · exact ⟨-1, Ev.bind hr (ev_neg c (ev_bindc hq (ev_pos c2 (ev_ret _)))), by omega, fun h => by omega⟩
    · refine ⟨q, Ev.bind hr (ev_neg c (ev_bindc hq (ev_neg c2 (ev_ret _)))), by omega, fun h => ⟨e1, e2, ?_⟩⟩
      have := hx2 (by omega)
      omega
theorem toEnv_ev (ns : List ByteArray) (vs : List Int) (h1 : ns.length ≤ 1048576) (h2 : vs.length ≤ 1048576) : Ev (fun k => laws_toEnv.f k ns vs) (ns, vs) := by
  unfold laws_toEnv.f
  exact Ev.bind (toStringS_ev ns h1) (Ev.bind (toIntS_ev vs h2) (ev_ret _))
theorem eqEnv_ev (ns : List ByteArray) (vs : List Int) (h1 : ns.length ≤ 9223372036854775807) (h2 : vs.length ≤ 9223372036854775807) : Ev (fun k => laws_eqEnv.f k ns vs ns vs) true := by
  unfold laws_eqEnv.f
  exact Ev.bind (eqStringS_ev ns h1) (ev_pos rfl (Ev.bind (eqIntS_ev vs h2) (ev_pos rfl (ev_ret _))))

/-- n marks from m on. -/
def upBy {α : Type} (f : Int → α) (m : Int) : Nat → List α
  | 0 => []
  | n + 1 => f m :: upBy f (m + 1) n
theorem upBy_length {α : Type} (f : Int → α) (n : Nat) : ∀ m : Int, (upBy f m n).length = n := by
  induction n with
  | zero => intro m; rfl
  | succ n ih => intro m; simp [upBy, ih]
theorem upBy_snoc {α : Type} (f : Int → α) (n : Nat) : ∀ m : Int, upBy f m n ++ [f (m + n)] = upBy f m (n + 1) := by
  induction n with
  | zero => intro m; simp [upBy]
  | succ n ih =>
    intro m
    have h := ih (m + 1)
    rw [show m + 1 + (n : Int) = m + ((n + 1 : Nat) : Int) by omega] at h
    show f m :: (upBy f (m + 1) n ++ [f (m + ((n + 1 : Nat) : Int))]) = f m :: upBy f (m + 1) (n + 1)
    rw [h]
theorem upBy_get {α : Type} (f : Int → α) : ∀ (N : Nat) (m : Int) (i : Nat), i < N → (upBy f m N)[i]? = some (f (m + i)) := by
  intro N
  induction N with
  | zero => intro m i h; omega
  | succ N ih =>
    intro m i h
    cases i with
    | zero => simp [upBy]
    | succ i =>
      simp only [upBy, List.getElem?_cons_succ]
      rw [ih (m + 1) i (by omega), show m + 1 + (i : Int) = m + ((i + 1 : Nat) : Int) by omega]
theorem upBy_rd {α : Type} (d : α) (f : Int → α) (m : Int) (N i : Nat) (h : i < N) : rdOf d (upBy f m N) i = f (m + i) := by
  unfold rdOf
  rw [List.getD_eq_getElem?_getD, show ((i : Int)).toNat = i by omega, upBy_get f N m i h]
  rfl

def upFrom (m : Int) (n : Nat) : List Int := upBy (fun x => x) m n
theorem upFrom_length (m : Int) (n : Nat) : (upFrom m n).length = n := upBy_length _ n m
theorem markIntS_l0 (m : Int) (N : Nat) (hN : N ≤ 1000000000) (hm : 0 ≤ m) (hm2 : m ≤ 1000000000000) (n : Nat) : ∀ (l : List Int) (i : Nat), l.length = N → i + n = N → l.take i = upFrom m i → Ev (fun k => laws_markIntS.l0 k l (m + i) i) (m + N, upFrom m N) := by
  induction n with
  | zero =>
    intro l i hl hn ht
    refine ev_step ?_
    simp only [laws_markIntS.l0]
    refine ev_neg (by omega) (ev_eq ?_ (ev_ret _))
    obtain rfl : i = N := by omega
    rw [List.take_of_length_le (by omega)] at ht
    rw [ht]
  | succ n ih =>
    intro l i hl hn ht
    refine ev_step ?_
    simp only [laws_markIntS.l0]
    refine ev_pos (by omega) (ev_pos (by omega) ?_)
    rw [w64 (x := m + (i : Int) + 1) (by omega) (by omega), w64 (x := (i : Int) + 1) (by omega) (by omega)]
    have h := ih (l.set i (m + i)) (i + 1) (by simpa using hl) (by omega) (by rw [set_take _ _ _ (by omega), ht]; exact upBy_snoc _ i m)
    rw [show m + ((i + 1 : Nat) : Int) = m + (i : Int) + 1 by omega, show ((i + 1 : Nat) : Int) = (i : Int) + 1 by omega] at h
    exact h
theorem markIntS_ev (l : List Int) (m : Int) (hl : l.length ≤ 1000000000) (hm : 0 ≤ m) (hm2 : m ≤ 1000000000000) : Ev (fun k => laws_markIntS.f k l m) (m + l.length, upFrom m l.length) := by
  unfold laws_markIntS.f
  have h := markIntS_l0 m l.length hl hm hm2 l.length l 0 rfl (by omega) rfl
  simpa using h
theorem heldIntS_l0 (m : Int) (N : Nat) (hN : N ≤ 1000000000) (hm : 0 ≤ m) (hm2 : m ≤ 1000000000000) (n : Nat) : ∀ (i : Nat), i + n = N → Ev (fun k => laws_heldIntS.l0 k (upFrom m N) (m + i) i) (m + N) := by
  have hl := upFrom_length m N
  induction n with
  | zero =>
    intro i hn
    refine ev_step ?_
    simp only [laws_heldIntS.l0]
    refine ev_neg (by omega) (ev_eq ?_ (ev_ret _))
    obtain rfl : i = N := by omega
    rfl
  | succ n ih =>
    intro i hn
    refine ev_step ?_
    simp only [laws_heldIntS.l0]
    refine ev_pos (by omega) (ev_pos (by omega) (ev_pos ?_ ?_))
    · rw [rd_rdOf]
      exact upBy_rd 0 _ m N i (by omega)
    · rw [w64 (x := m + (i : Int) + 1) (by omega) (by omega), w64 (x := (i : Int) + 1) (by omega) (by omega)]
      have h := ih (i + 1) (by omega)
      rw [show m + ((i + 1 : Nat) : Int) = m + (i : Int) + 1 by omega, show ((i + 1 : Nat) : Int) = (i : Int) + 1 by omega] at h
      exact h
theorem heldIntS_ev (m : Int) (N : Nat) (hN : N ≤ 1000000000) (hm : 0 ≤ m) (hm2 : m ≤ 1000000000000) : Ev (fun k => laws_heldIntS.f k (upFrom m N) m) (m + N) := by
  unfold laws_heldIntS.f
  have h := heldIntS_l0 m N hN hm hm2 N 0 (by omega)
  simpa using h

theorem markText_l0 (d : Nat) : ∀ (m : Int) (x : ByteArray), 0 ≤ m → m < 10 ^ d → x.size + d ≤ 1000 → m ≤ 9223372036854775807 → ∃ t, Ev (fun k => laws_markText.l0 k m x) t := by
  induction d with
  | zero =>
    intro m x h0 h1 hx _
    refine ⟨(⟨#[109]⟩ : ByteArray) ++ x, ev_step ?_⟩
    simp only [laws_markText.l0]
    exact ev_neg (by omega) (ev_pos (by omega) (ev_ret _))
  | succ d ih =>
    intro m x h0 h1 hx hm
    rw [Int.pow_succ] at h1
    by_cases c : m > 0
    · obtain ⟨t, ht⟩ := ih (m / 10) (strOfNums [(wrap64 (48 + (Int.tmod m 10))) % 256] ++ x) (by omega) (by omega) (by rw [ByteArray.size_append, strOfNums_size]; simp; omega) (by omega)
      refine ⟨t, ev_step ?_⟩
      simp only [laws_markText.l0]
      refine ev_pos c (ev_bindc rfl (ev_pos ?_ ?_))
      · rw [strOfNums_size]
        simp
        omega
      · rw [Int.tdiv_eq_ediv_of_nonneg h0, w64 (x := m / 10) (by omega) (by omega)]
        exact ht
    · refine ⟨(⟨#[109]⟩ : ByteArray) ++ x, ev_step ?_⟩
      simp only [laws_markText.l0]
      exact ev_neg c (ev_pos (by omega) (ev_ret _))
theorem markText_some (m : Int) (h0 : 0 ≤ m) (h1 : m ≤ 10000000000000) : ∃ t, Ev (fun k => laws_markText.f k m) t := by
  unfold laws_markText.f
  by_cases c : m ≤ 0
  · exact ⟨_, ev_pos c (ev_ret _)⟩
  · obtain ⟨t, ht⟩ := markText_l0 14 m ⟨#[]⟩ h0 (by omega) (by decide) (by omega)
    exact ⟨t, ev_neg c ht⟩
open Classical in
noncomputable def markT (m : Int) : ByteArray := if h : 0 ≤ m ∧ m ≤ 10000000000000 then Classical.choose (markText_some m h.1 h.2) else ByteArray.empty
theorem markT_ev (m : Int) (h0 : 0 ≤ m) (h1 : m ≤ 10000000000000) : Ev (fun k => laws_markText.f k m) (markT m) := by
  unfold markT
  rw [dif_pos ⟨h0, h1⟩]
  exact Classical.choose_spec (markText_some m h0 h1)

noncomputable def upText (m : Int) (n : Nat) : List ByteArray := upBy markT m n
theorem upText_length (m : Int) (n : Nat) : (upText m n).length = n := upBy_length _ n m
theorem markStringS_l0 (m : Int) (N : Nat) (hN : N ≤ 1000000000) (hm : 0 ≤ m) (hm2 : m ≤ 1000000000000) (n : Nat) : ∀ (l : List ByteArray) (i : Nat), l.length = N → i + n = N → l.take i = upText m i → Ev (fun k => laws_markStringS.l0 k l (m + i) i) (m + N, upText m N) := by
  induction n with
  | zero =>
    intro l i hl hn ht
    refine ev_step ?_
    simp only [laws_markStringS.l0]
    refine ev_neg (by omega) (ev_eq ?_ (ev_ret _))
    obtain rfl : i = N := by omega
    rw [List.take_of_length_le (by omega)] at ht
    rw [ht]
  | succ n ih =>
    intro l i hl hn ht
    refine ev_step ?_
    simp only [laws_markStringS.l0]
    refine ev_pos (by omega) (Ev.bind (markT_ev (m + i) (by omega) (by omega)) (ev_pos (by omega) ?_))
    rw [w64 (x := m + (i : Int) + 1) (by omega) (by omega), w64 (x := (i : Int) + 1) (by omega) (by omega)]
    have h := ih (l.set i (markT (m + i))) (i + 1) (by simpa using hl) (by omega) (by rw [set_take _ _ _ (by omega), ht]; exact upBy_snoc _ i m)
    rw [show m + ((i + 1 : Nat) : Int) = m + (i : Int) + 1 by omega, show ((i + 1 : Nat) : Int) = (i : Int) + 1 by omega] at h
    exact h
theorem markStringS_ev (l : List ByteArray) (m : Int) (hl : l.length ≤ 1000000000) (hm : 0 ≤ m) (hm2 : m ≤ 1000000000000) : Ev (fun k => laws_markStringS.f k l m) (m + l.length, upText m l.length) := by
  unfold laws_markStringS.f
  have h := markStringS_l0 m l.length hl hm hm2 l.length l 0 rfl (by omega) rfl
  simpa using h

theorem heldStringS_l0 (m : Int) (N : Nat) (hN : N ≤ 1000000000) (hm : 0 ≤ m) (hm2 : m ≤ 1000000000000) (n : Nat) : ∀ (i : Nat), i + n = N → Ev (fun k => laws_heldStringS.l0 k (upText m N) (m + i) i) (m + N) := by
  have hl := upText_length m N
  induction n with
  | zero =>
    intro i hn
    refine ev_step ?_
    simp only [laws_heldStringS.l0]
    refine ev_neg (by omega) (ev_eq ?_ (ev_ret _))
    obtain rfl : i = N := by omega
    rfl
  | succ n ih =>
    intro i hn
    refine ev_step ?_
    simp only [laws_heldStringS.l0]
    refine ev_pos (by omega) (ev_pos (by omega) (Ev.bind (markT_ev (m + i) (by omega) (by omega)) (ev_pos ?_ ?_)))
    · rw [show rdOf ByteArray.empty (upText m N) (i : Int) = markT (m + i) from upBy_rd _ _ m N i (by omega)]
    · rw [w64 (x := m + (i : Int) + 1) (by omega) (by omega), w64 (x := (i : Int) + 1) (by omega) (by omega)]
      have h := ih (i + 1) (by omega)
      rw [show m + ((i + 1 : Nat) : Int) = m + (i : Int) + 1 by omega, show ((i + 1 : Nat) : Int) = (i : Int) + 1 by omega] at h
      exact h
theorem heldStringS_ev (m : Int) (N : Nat) (hN : N ≤ 1000000000) (hm : 0 ≤ m) (hm2 : m ≤ 1000000000000) : Ev (fun k => laws_heldStringS.f k (upText m N) m) (m + N) := by
  unfold laws_heldStringS.f
  have h := heldStringS_l0 m N hN hm hm2 N 0 (by omega)
  simpa using h

theorem markEnv_ev (ns : List ByteArray) (vs : List Int) (m : Int) (h1 : ns.length ≤ 10000000) (h2 : vs.length ≤ 10000000) (hm : 0 ≤ m) (hm2 : m ≤ 100000000000) :
    Ev (fun k => laws_markEnv.f k ns vs m) (m + ns.length + vs.length, upText m ns.length, upFrom (m + ns.length) vs.length) := by
  unfold laws_markEnv.f
  exact Ev.bind (markStringS_ev ns m (by omega) hm (by omega)) (Ev.bind (markIntS_ev vs (m + ns.length) (by omega) (by omega) (by omega)) (ev_ret _))
theorem heldEnv_ev (a b : Nat) (m : Int) (h1 : a ≤ 10000000) (h2 : b ≤ 10000000) (hm : 0 ≤ m) (hm2 : m ≤ 100000000000) :
    Ev (fun k => laws_heldEnv.f k (upText m a) (upFrom (m + a) b) m) (m + a + b) := by
  unfold laws_heldEnv.f
  exact Ev.bind (heldStringS_ev m a (by omega) hm (by omega)) (ev_neg (by omega) (Ev.bind (heldIntS_ev (m + a) b (by omega) (by omega) (by omega)) (ev_neg (by omega) (ev_ret _))))

/-- The first place of a text in a list, counted from j on; -1 without it. -/
def idxT (s : ByteArray) : List ByteArray → Int → Int
  | [], _ => -1
  | y :: l, j => if y = s then j else idxT s l (j + 1)
theorem idxT_mem (s : ByteArray) : ∀ (l : List ByteArray) (j : Int), 0 ≤ j → (idxT s l j ≥ 0 ↔ s ∈ l)
  | [], j, _ => by simp [idxT]
  | y :: l, j, h => by
    unfold idxT
    by_cases c : y = s
    · rw [if_pos c]
      simp [c, h]
    · rw [if_neg c, idxT_mem s l (j + 1) (by omega)]
      have c' : ¬ s = y := fun h => c h.symm
      simp [c']
theorem slices_Index_l0 (l : List ByteArray) (s : ByteArray) (hl : l.length ≤ 140737488351232) (n : Nat) : ∀ (i : Int), 0 ≤ i → (l.length : Int) - i = n → Ev (fun k => slices_Index_string_string.l0 k l s (l.length : Int) i) (idxT s (l.drop i.toNat) i) := by
  induction n with
  | zero =>
    intro i h0 hi
    refine ev_step ?_
    simp only [slices_Index_string_string.l0]
    rw [drop_end h0 (by omega)]
    exact ev_neg (by omega) (ev_ret _)
  | succ n ih =>
    intro i h0 hi
    refine ev_step ?_
    simp only [slices_Index_string_string.l0]
    refine ev_pos (by omega) (ev_pos h0 (ev_pos (by omega) ?_))
    rw [drop_rd (d := ByteArray.empty) h0 (by omega)]
    unfold idxT
    by_cases c : s.toList = (rdOf ByteArray.empty l i).toList
    · refine ev_pos c (ev_eq ?_ (ev_ret _))
      rw [toList_eq_iff] at c
      rw [if_pos c.symm]
    · refine ev_neg c ?_
      rw [w64 (x := i + 1) (by omega) (by omega)]
      refine ev_eq ?_ (ih (i + 1) (by omega) (by omega))
      rw [toList_eq_iff] at c
      rw [if_neg (fun h => c h.symm)]
theorem slices_Index_ev (l : List ByteArray) (s : ByteArray) (hl : l.length ≤ 140737488351232) : Ev (fun k => slices_Index_string_string.f k l s) (idxT s l 0) :=
  slices_Index_l0 l s hl l.length 0 (by omega) (by omega)

theorem slices_Contains_ev (l : List ByteArray) (s : ByteArray) (hl : l.length ≤ 140737488351232) : Ev (fun k => slices_Contains_string_string.f k l s) (decide (s ∈ l)) := by
  unfold slices_Contains_string_string.f
  refine Ev.bind (slices_Index_ev l s hl) (ev_eq ?_ (ev_ret _))
  rw [decide_eq_decide]
  exact idxT_mem s l 0 (by omega)

theorem l08In_l0 (l : List ByteArray) (s : ByteArray) (hl : l.length ≤ 9223372036854775806) (n : Nat) : ∀ i : Int, 0 ≤ i → (l.length : Int) - i = n → Ev (fun k => spec_l08In.l0 k l s i) (decide (s ∈ l.drop i.toNat)) := by
  induction n with
  | zero =>
    intro i h0 hn
    refine ev_step ?_
    simp only [spec_l08In.l0]
    rw [drop_end h0 (by omega)]
    exact ev_neg (by omega) (ev_eq (by simp) (ev_ret _))
  | succ n ih =>
    intro i h0 hn
    refine ev_step ?_
    simp only [spec_l08In.l0]
    refine ev_pos (by omega) (ev_pos h0 ?_)
    rw [drop_rd (d := ByteArray.empty) h0 (by omega)]
    by_cases c : (rdOf ByteArray.empty l i).toList = s.toList
    · refine ev_pos c (ev_eq ?_ (ev_ret _))
      rw [toList_eq_iff] at c
      simp [c]
    · refine ev_neg c ?_
      rw [w64 (x := i + 1) (by omega) (by omega)]
      refine ev_eq ?_ (ih (i + 1) (by omega) (by omega))
      rw [toList_eq_iff] at c
      have c' : ¬ s = rdOf ByteArray.empty l i := fun h => c h.symm
      simp [c']
theorem l08In_ev (l : List ByteArray) (s : ByteArray) (hl : l.length ≤ 9223372036854775806) : Ev (fun k => spec_l08In.f k l s) (decide (s ∈ l)) := by
  unfold spec_l08In.f
  have h := l08In_l0 l s hl l.length 0 (by omega) (by omega)
  simpa using h

def togN (a : List ByteArray) : List ByteArray → List Int → List ByteArray
  | n :: ns, _ :: vs => if n ∈ a then togN a ns vs else n :: togN a ns vs
  | _, _ => []
def togV (a : List ByteArray) : List ByteArray → List Int → List Int
  | n :: ns, v :: vs => if n ∈ a then togV a ns vs else v :: togV a ns vs
  | _, _ => []
theorem tog_length (a : List ByteArray) : ∀ (ns : List ByteArray) (vs : List Int), (togN a ns vs).length ≤ ns.length ∧ (togV a ns vs).length ≤ ns.length
  | [], vs => by simp [togN, togV]
  | n :: ns, [] => by simp [togN, togV]
  | n :: ns, v :: vs => by
    have h := tog_length a ns vs
    unfold togN togV
    by_cases c : n ∈ a
    · rw [if_pos c, if_pos c]
      simp only [List.length_cons]
      omega
    · rw [if_neg c, if_neg c]
      simp only [List.length_cons]
      omega
theorem tog_nil (a ns : List ByteArray) : togN a ns [] = [] ∧ togV a ns [] = [] := by
  cases ns <;> exact ⟨rfl, rfl⟩
theorem spec_Together_l0 (a : List ByteArray) (av : List Int) (ns : List ByteArray) (vs : List Int) (ha : a.length ≤ 1048576) (hl : ns.length ≤ 1048576) (n : Nat) : ∀ (i : Int) (x : List ByteArray) (y : List Int), 0 ≤ i → (ns.length : Int) - i ≤ n → i ≤ ns.length → (x.length : Int) ≤ 1048576 + i → (y.length : Int) ≤ 1048576 + i →
    Ev (fun k => spec_Together.l0 k i a av ns vs x y) (x ++ togN a (ns.drop i.toNat) (vs.drop i.toNat), y ++ togV a (ns.drop i.toNat) (vs.drop i.toNat)) := by
  have stop : ∀ (i : Int) x y, Ev (fun k => spec_Together.j1 k i false a av ns vs x y) (x, y) := by
    intro i x y
    refine ev_step ?_
    simp only [spec_Together.j1]
    exact ev_neg (by simp) (ev_ret _)
  induction n with
  | zero =>
    intro i x y h0 hn hi hx hy
    refine ev_step ?_
    simp only [spec_Together.l0]
    rw [drop_end (l := ns) h0 (by omega), show togN a [] (vs.drop i.toNat) = [] from rfl, show togV a [] (vs.drop i.toNat) = [] from rfl, List.append_nil, List.append_nil]
    exact ev_neg (by omega) (stop i x y)
  | succ n ih =>
    intro i x y h0 hn hi hx hy
    refine ev_step ?_
    simp only [spec_Together.l0]
    by_cases c : i < (ns.length : Int)
    · refine ev_pos c ?_
      by_cases c2 : i < (vs.length : Int)
      · rw [show decide (i < (vs.length : Int)) = true by simpa using c2]
        refine ev_step ?_
        simp only [spec_Together.j1]
        rw [drop_rd (d := ByteArray.empty) (l := ns) h0 c, drop_rd (d := (0 : Int)) (l := vs) h0 c2, w64 (x := i + 1) (by omega) (by omega)]
        unfold togN togV
        refine ev_pos (by simp) (ev_pos h0 (ev_pos c (Ev.bind (l08In_ev a (rdOf ByteArray.empty ns i) (by omega)) ?_)))
        by_cases c3 : rdOf ByteArray.empty ns i ∈ a
        · rw [if_pos c3, if_pos c3]
          exact ev_pos (by simpa using c3) (ih (i + 1) x y (by omega) (by omega) (by omega) (by omega) (by omega))
        · rw [if_neg c3, if_neg c3]
          refine ev_neg (by simpa using c3) (ev_pos (by omega) (ev_pos c2 (ev_pos (by omega) ?_)))
          refine ev_eq ?_ (ih (i + 1) (x ++ [rdOf ByteArray.empty ns i]) (y ++ [rd vs i]) (by omega) (by omega) (by omega) (by simp; omega) (by simp; omega))
          simp only [List.append_assoc, List.cons_append, List.nil_append, rd_rdOf]
      · rw [drop_end (l := vs) h0 c2, show decide (i < (vs.length : Int)) = false by simpa using c2, (tog_nil a _).1, (tog_nil a _).2, List.append_nil, List.append_nil]
        exact stop i x y
    · rw [drop_end (l := ns) h0 c, show togN a [] (vs.drop i.toNat) = [] from rfl, show togV a [] (vs.drop i.toNat) = [] from rfl, List.append_nil, List.append_nil]
      exact ev_neg c (stop i x y)
theorem spec_Together_ev (a : List ByteArray) (av : List Int) (ns : List ByteArray) (vs : List Int) (ha : a.length ≤ 1048576) (hav : av.length ≤ 1048576) (hl : ns.length ≤ 1048576) : Ev (fun k => spec_Together.f k a av ns vs) (a ++ togN a ns vs, av ++ togV a ns vs) := by
  have hc : spec_l10Copy.f a av = some (a, av) := by
    unfold spec_l10Copy.f
    simp only [Option.bind_some]
    rw [if_pos (by simp; omega), if_pos (by simp; omega)]
    simp
  have h := spec_Together_l0 a av ns vs ha hl ns.length 0 a av (by omega) (by omega) (by omega) (by omega) (by omega)
  simp only [Int.toNat_zero, List.drop_zero] at h
  unfold spec_Together.f
  exact ev_bindc hc h
theorem impl_Together_l0 (a : List ByteArray) (av : List Int) (ns : List ByteArray) (vs : List Int) (ha : a.length ≤ 1048576) (hl : ns.length ≤ 1048576) (n : Nat) : ∀ (i : Int) (x : List ByteArray) (y : List Int), 0 ≤ i → (ns.length : Int) - i ≤ n → i ≤ ns.length → (x.length : Int) ≤ 1048576 + i → (y.length : Int) ≤ 1048576 + i →
    Ev (fun k => impl_Together.l0 k ns (ns.length : Int) i a av ns vs x y) (x ++ togN a (ns.drop i.toNat) (vs.drop i.toNat), y ++ togV a (ns.drop i.toNat) (vs.drop i.toNat)) := by
  induction n with
  | zero =>
    intro i x y h0 hn hi hx hy
    refine ev_step ?_
    simp only [impl_Together.l0]
    rw [drop_end (l := ns) h0 (by omega), show togN a [] (vs.drop i.toNat) = [] from rfl, show togV a [] (vs.drop i.toNat) = [] from rfl, List.append_nil, List.append_nil]
    exact ev_neg (by omega) (ev_ret _)
  | succ n ih =>
    intro i x y h0 hn hi hx hy
    refine ev_step ?_
    simp only [impl_Together.l0]
    by_cases c : i < (ns.length : Int)
    · rw [w64 (x := i + 1) (by omega) (by omega), drop_rd (d := ByteArray.empty) (l := ns) h0 c]
      refine ev_pos c (ev_pos h0 (ev_pos c ?_))
      by_cases c2 : i < (vs.length : Int)
      · rw [drop_rd (d := (0 : Int)) (l := vs) h0 c2]
        unfold togN togV
        refine ev_pos c2 (Ev.bind (slices_Contains_ev a (rdOf ByteArray.empty ns i) (by omega)) ?_)
        by_cases c3 : rdOf ByteArray.empty ns i ∈ a
        · rw [if_pos c3, if_pos c3]
          exact ev_pos (by simpa using c3) (ih (i + 1) x y (by omega) (by omega) (by omega) (by omega) (by omega))
        · rw [if_neg c3, if_neg c3]
          refine ev_neg (by simpa using c3) (ev_pos (by omega) (ev_pos (by omega) ?_))
          refine ev_eq ?_ (ih (i + 1) (x ++ [rdOf ByteArray.empty ns i]) (y ++ [rd vs i]) (by omega) (by omega) (by omega) (by simp; omega) (by simp; omega))
          simp only [List.append_assoc, List.cons_append, List.nil_append, rd_rdOf]
      · refine ev_neg c2 ?_
        have h := ih (i + 1) x y (by omega) (by omega) (by omega) (by omega) (by omega)
        rw [drop_end (l := vs) (i := i + 1) (by omega) (by omega), (tog_nil a _).1, (tog_nil a _).2] at h
        rw [drop_end (l := vs) h0 c2, (tog_nil a _).1, (tog_nil a _).2]
        exact h
    · rw [drop_end (l := ns) h0 c, show togN a [] (vs.drop i.toNat) = [] from rfl, show togV a [] (vs.drop i.toNat) = [] from rfl, List.append_nil, List.append_nil]
      exact ev_neg c (ev_ret _)
theorem impl_Together_ev (a : List ByteArray) (av : List Int) (ns : List ByteArray) (vs : List Int) (ha : a.length ≤ 1048576) (hav : av.length ≤ 1048576) (hl : ns.length ≤ 1048576) : Ev (fun k => impl_Together.f k a av ns vs) (a ++ togN a ns vs, av ++ togV a ns vs) := by
  have hc : impl_copyEnv.f a av = some (a, av) := by
    unfold impl_copyEnv.f
    rw [if_pos (by simp; omega), if_pos (by simp; omega)]
    simp
  have h := impl_Together_l0 a av ns vs ha hl ns.length 0 a av (by omega) (by omega) (by omega) (by omega) (by omega)
  simp only [Int.toNat_zero, List.drop_zero] at h
  unfold impl_Together.f
  exact ev_bindc hc h

theorem FnExactTogether : Go.Proofs.Ytegeahiflkjhmaa.OpnFnExactTogether.Pure := by
  intro a av ns vs ⟨g1, g2⟩ ⟨g3, _⟩ ⟨h1, h2⟩ ⟨h3, _⟩
  refine Ev.rounds ?_
  unfold laws_FnExactTogether.f
  obtain ⟨r, hr, hrle, hrx⟩ := szEnv_ev a av g1 g2 g3 1048576 (by omega) (by omega)
  refine Ev.bind hr ?_
  by_cases c : r < 0
  · exact ev_pos c (ev_ret _)
  · refine ev_neg c ?_
    obtain ⟨e1, _, e3⟩ := hrx (by omega)
    obtain ⟨q, hq, hqle, hqx⟩ := szEnv_ev ns vs h1 h2 h3 r (by omega) (by omega)
    refine Ev.bind hq ?_
    by_cases c2 : q < 0
    · exact ev_pos c2 (ev_ret _)
    · refine ev_neg c2 ?_
      obtain ⟨f1, _, f3⟩ := hqx (by omega)
      have ta := toEnv_ev a av (by omega) (by omega)
      have tb := toEnv_ev ns vs (by omega) (by omega)
      have hs' := spec_Together_ev a av ns vs (by omega) (by omega) (by omega)
      have hi' := impl_Together_ev a av ns vs (by omega) (by omega) (by omega)
      have hl := tog_length a ns vs
      have l1 : (a ++ togN a ns vs).length ≤ 2097152 := by
        rw [List.length_append]
        omega
      have l2 : (av ++ togV a ns vs).length ≤ 2097152 := by
        rw [List.length_append]
        omega
      generalize a ++ togN a ns vs = x at hs' hi' l1
      generalize av ++ togV a ns vs = y at hs' hi' l2
      have he := eqEnv_ev x y (by omega) (by omega)
      have ea := eqEnv_ev a av (by omega) (by omega)
      have eb := eqEnv_ev ns vs (by omega) (by omega)
      have ma := markEnv_ev a av 1 (by omega) (by omega) (by omega) (by omega)
      have mb := markEnv_ev ns vs (1 + a.length + av.length) (by omega) (by omega) (by omega) (by omega)
      have mx := markEnv_ev x y 1 (by omega) (by omega) (by omega) (by omega)
      have hh := heldEnv_ev x.length y.length 1 (by omega) (by omega) (by omega) (by omega)
      refine Ev.bind ta (Ev.bind tb (Ev.bind hs' (Ev.bind ta (Ev.bind tb (Ev.bind hi' (Ev.bind he (ev_pos rfl (Ev.bind ta (Ev.bind ea (ev_pos rfl (Ev.bind tb (Ev.bind eb (ev_pos rfl (Ev.bind ma (Ev.bind mb (ev_neg (by omega) (Ev.bind he ?_)))))))))))))))))
      refine ev_step ?_
      simp only [laws_FnExactTogether.j0]
      exact ev_neg (by simp) (Ev.bind mx (Ev.bind hh (ev_neg (by omega) (ev_pos rfl (Ev.bind ta (Ev.bind tb (Ev.bind hi' (Ev.bind he (ev_pos rfl (Ev.bind hh (ev_neg (by omega) (ev_pos rfl (ev_ret _)))))))))))))

end Go.Proofs.Ytegeahiflkjhmaa.Pure
