/- The program's EnvOk answers as the reference's at every environment, and leaves it as it was. No condition beyond the law's own bound. -/
import Derived.Test.YtegeahiflkjhmaaOpnFnExactEnvOk
set_option linter.unusedVariables false
set_option linter.unusedSimpArgs false
namespace Go.Proofs.Ytegeahiflkjhmaa.Pure
open Go.RowKit Go.Proofs.Ytegeahiflkjhmaa.PFnExactEnvOk Go.Proofs.YtegeahiflkjhmaaW.PrintWords Go.Proofs.YtegeahiflkjhmaaW.PrintLast Go.Proofs.YtegeahiflkjhmaaW.PrintMore Go.Proofs.Ytegeahiflkjhmaa.Opn Go.Proofs.Ytegeahiflkjhmaa.OpnFnExactEnvOk

theorem w64 {x : Int} (h0 : -9223372036854775808 ≤ x) (h1 : x ≤ 9223372036854775807) : wrap64 x = x := by
  unfold wrap64
  omega
theorem wf_i64 {x : Int} (h : (Lit.int .i64 x).wf = true) : -9223372036854775808 ≤ x ∧ x ≤ 9223372036854775807 := by
  simp [Lit.wf, IntKind.min, IntKind.max, IntKind.signed, IntKind.bits] at h
  omega

instance lawBA : LawfulBEq ByteArray where
  eq_of_beq {a b} h := by
    cases a
    cases b
    congr 1
    exact eq_of_beq (α := Array UInt8) h
  rfl {a} := by
    cases a
    exact BEq.rfl (α := Array UInt8)

/-! Rounds -/
theorem ev_step {α : Type} {g : Nat → Option α} {r : α} (h : Ev (fun k => g (k + 1)) r) : Ev g r := Ev.step (fun _ => rfl) h
theorem ev_ret {α : Type} (r : α) : Ev (fun _ => some r) r := ⟨0, fun _ _ => rfl⟩
theorem ev_pos {α : Type} {c : Prop} [Decidable c] {g f : Nat → Option α} {r : α} (h : c) (k : Ev g r) : Ev (fun n => if c then g n else f n) r :=
  Ev.congr (fun _ => if_pos h) k
theorem ev_neg {α : Type} {c : Prop} [Decidable c] {g f : Nat → Option α} {r : α} (h : ¬ c) (k : Ev f r) : Ev (fun n => if c then g n else f n) r :=
  Ev.congr (fun _ => if_neg h) k
theorem ev_bindc {α β : Type} {x : Option α} {f : Nat → α → Option β} {a : α} {r : β} (h : x = some a) (k : Ev (fun n => f n a) r) : Ev (fun n => x.bind (f n)) r := by
  subst h
  exact k
theorem ev_rpos {α : Type} {c : Prop} [Decidable c] {g : Nat → Option α} {a b : α} (h : c) (k : Ev g a) : Ev g (if c then a else b) := by
  rw [if_pos h]
  exact k
theorem ev_rneg {α : Type} {c : Prop} [Decidable c] {g : Nat → Option α} {a b : α} (h : ¬ c) (k : Ev g b) : Ev g (if c then a else b) := by
  rw [if_neg h]
  exact k
theorem ev_eq {α : Type} {g : Nat → Option α} {r r' : α} (h : r = r') (k : Ev g r) : Ev g r' := h ▸ k

/-! Lists and texts as lists of numbers -/
def bs (s : ByteArray) : List Int := s.data.toList.map fun c => (c.toNat : Int)
theorem bs_length (s : ByteArray) : (bs s).length = s.size := by
  unfold bs
  rw [List.length_map, Array.length_toList]
  rfl
theorem bs_range {s : ByteArray} {x : Int} (h : x ∈ bs s) : 0 ≤ x ∧ x < 256 := by
  unfold bs at h
  obtain ⟨c, _, rfl⟩ := List.mem_map.1 h
  have := c.toNat_lt
  omega
theorem bs_inj {a b : ByteArray} (h : bs a = bs b) : a = b := by
  have h2 : a.data.toList = b.data.toList := by
    have h3 := congrArg (List.map fun n : Int => UInt8.ofNat n.toNat) h
    unfold bs at h3
    rw [List.map_map, List.map_map] at h3
    have e : ∀ l : List UInt8, l.map ((fun n : Int => UInt8.ofNat n.toNat) ∘ fun c => (c.toNat : Int)) = l := by
      intro l
      induction l with
      | nil => rfl
      | cons c l ih =>
        rw [List.map_cons, ih]
        simp
    rwa [e, e] at h3
  cases a
  cases b
  congr 1
  exact Array.toList_inj.1 h2
theorem toList_eq_iff {a b : ByteArray} : a.toList = b.toList ↔ a = b := by
  constructor
  · intro h
    rw [ByteArray.toList_eq, ByteArray.toList_eq] at h
    cases a
    cases b
    congr 1
    exact Array.toList_inj.1 h
  · rintro rfl
    rfl
theorem drop_rd {α : Type} {d : α} {l : List α} {i : Int} (h0 : 0 ≤ i) (h1 : i < l.length) : l.drop i.toNat = rdOf d l i :: l.drop (i + 1).toNat := by
  have h2 : i.toNat < l.length := by omega
  rw [List.drop_eq_getElem_cons h2]
  unfold rdOf
  rw [List.getD_eq_getElem?_getD, List.getElem?_eq_getElem h2, show (i + 1).toNat = i.toNat + 1 by omega]
  rfl
theorem drop_end {α : Type} {l : List α} {i : Int} (h0 : 0 ≤ i) (h1 : ¬ i < l.length) : l.drop i.toNat = [] := List.drop_eq_nil_of_le (by omega)
theorem bs_rd {s : ByteArray} {i : Int} (h0 : 0 ≤ i) (h1 : i < s.size) : rdOf 0 (bs s) i = bt s i := by
  have h2 : i.toNat < s.size := by omega
  have h3 : i.toNat < s.data.toList.length := by
    rw [Array.length_toList]
    exact h2
  unfold rdOf bs bt
  rw [List.getD_eq_getElem?_getD, List.getElem?_map, List.getElem?_eq_getElem h3, dif_pos h2]
  rfl
theorem bs_drop {s : ByteArray} {i : Int} (h0 : 0 ≤ i) (h1 : i < s.size) : (bs s).drop i.toNat = bt s i :: (bs s).drop (i + 1).toNat := by
  rw [drop_rd (d := 0) h0 (by rw [bs_length]; exact h1), bs_rd h0 h1]
theorem bs_end {s : ByteArray} {i : Int} (h0 : 0 ≤ i) (h1 : ¬ i < s.size) : (bs s).drop i.toNat = [] := drop_end h0 (by rw [bs_length]; exact h1)
theorem strOf_bs (s : ByteArray) : strOfNums (bs s) = s := by
  have e : (bs s).map (fun n => UInt8.ofNat n.toNat) = s.data.toList := by
    unfold bs
    rw [List.map_map]
    conv => rhs; rw [← List.map_id s.data.toList]
    exact List.map_congr_left fun c _ => by simp
  unfold strOfNums
  rw [e]
theorem bs_strOf {l : List Int} (h : ∀ x ∈ l, 0 ≤ x ∧ x < 256) : bs (strOfNums l) = l := by
  unfold bs strOfNums
  rw [List.map_map]
  conv => rhs; rw [← List.map_id l]
  refine List.map_congr_left fun x hx => ?_
  obtain ⟨h0, h1⟩ := h x hx
  simp only [Function.comp_apply, UInt8.toNat_ofNat', id_eq]
  omega
theorem bs_append (a b : ByteArray) : bs (a ++ b) = bs a ++ bs b := by simp [bs]
theorem strOf_append (a b : List Int) : strOfNums (a ++ b) = strOfNums a ++ strOfNums b := by
  cases h : strOfNums a ++ strOfNums b
  rename_i d
  have := congrArg ByteArray.data h
  simp only [ByteArray.data_append] at this
  unfold strOfNums at this ⊢
  simp only [← this]
  simp
theorem ev_id {α : Type} {g : Nat → Option α} {r : α} (h : ∀ k, g k = some r) : Ev g r := ⟨0, fun k _ => h k⟩

theorem set_take {α : Type} (l : List α) (i : Nat) (x : α) (h : i < l.length) : (l.set i x).take (i + 1) = l.take i ++ [x] := by
  apply List.ext_getElem?
  intro j
  rcases Nat.lt_trichotomy j i with hj | hj | hj
  · rw [List.getElem?_take_of_lt (by omega), List.getElem?_set_ne (by omega), List.getElem?_append_left (by simp; omega), List.getElem?_take_of_lt hj]
  · subst hj
    rw [List.getElem?_take_of_lt (by omega), List.getElem?_set_self h, List.getElem?_append_right (by simp; omega)]
    simp [Nat.min_eq_left (Nat.le_of_lt h)]
  · rw [List.getElem?_eq_none (by simp; omega), List.getElem?_eq_none (by simp; omega)]
theorem take_rd {α : Type} (d : α) {l : List α} {i : Int} (h0 : 0 ≤ i) (h1 : i < l.length) : l.take (i + 1).toNat = l.take i.toNat ++ [rdOf d l i] := by
  have h2 : i.toNat < l.length := by omega
  rw [show (i + 1).toNat = i.toNat + 1 by omega, List.take_succ_eq_append_getElem h2]
  unfold rdOf
  rw [List.getD_eq_getElem?_getD, List.getElem?_eq_getElem h2]
  rfl
theorem rd_rdOf (l : List Int) (i : Int) : rd l i = rdOf 0 l i := rfl
theorem rdOf_mem {α : Type} {d : α} {l : List α} {i : Int} (h0 : 0 ≤ i) (h1 : i < l.length) : rdOf d l i ∈ l := by
  unfold rdOf
  rw [List.getD_eq_getElem?_getD, List.getElem?_eq_getElem (show i.toNat < l.length by omega)]
  exact List.getElem_mem _
/-- A copy made element by element, one round. -/
theorem copy_step {α : Type} (d : α) {src acc : List α} {i : Int} (h0 : 0 ≤ i) (h1 : i < src.length) (hl : acc.length = src.length) (ht : acc.take i.toNat = src.take i.toNat) :
    (acc.set i.toNat (rdOf d src i)).length = src.length ∧ (acc.set i.toNat (rdOf d src i)).take (i + 1).toNat = src.take (i + 1).toNat := by
  refine ⟨by simpa using hl, ?_⟩
  rw [take_rd d h0 h1, ← ht, show (i + 1).toNat = i.toNat + 1 by omega, set_take _ _ _ (by omega)]
theorem copy_end {α : Type} {src acc : List α} {i : Int} (h0 : 0 ≤ i) (h1 : ¬ i < src.length) (hl : acc.length = src.length) (ht : acc.take i.toNat = src.take i.toNat) : acc = src := by
  rw [List.take_of_length_le (by omega), List.take_of_length_le (by omega)] at ht
  exact ht

theorem szStringS_l0 (l : List ByteArray) (hl : l.length ≤ 1048576) (hs : ∀ x ∈ l, x.size ≤ 9223372036854775807) (n : Nat) : ∀ (left i : Int), 0 ≤ left → left ≤ 1048576 → 0 ≤ i → (l.length : Int) - i = n →
    ∃ r, Ev (fun k => laws_szStringS.l0 k l left i) r ∧ r ≤ left ∧ (0 ≤ r → ∀ x ∈ l.drop i.toNat, (x.size : Int) ≤ left) := by
  induction n with
  | zero =>
    intro left i h0 h1 hi hn
    refine ⟨left, ev_step ?_, Int.le_refl _, fun _ x hx => ?_⟩
    · simp only [laws_szStringS.l0]
      exact ev_neg (by omega) (ev_ret _)
    · rw [drop_end hi (by omega)] at hx
      cases hx
  | succ n ih =>
    intro left i h0 h1 hi hn
    have hz := hs _ (rdOf_mem (d := ByteArray.empty) (l := l) hi (by omega))
    rw [drop_rd (d := ByteArray.empty) (l := l) hi (by omega)]
    have step : ∀ r, Ev (fun k => if (wrap64 (left - ((rdOf ByteArray.empty l i).size : Int))) < 0 then (some (-1)) else (laws_szStringS.l0 k l (wrap64 (left - ((rdOf ByteArray.empty l i).size : Int))) (wrap64 (i + 1)))) r → Ev (fun k => laws_szStringS.l0 k l left i) r := by
      intro r h
      refine ev_step ?_
      simp only [laws_szStringS.l0]
      exact ev_pos (by omega) (ev_pos hi h)
    generalize rdOf ByteArray.empty l i = y at hz step ⊢
    rw [w64 (x := left - (y.size : Int)) (by omega) (by omega), w64 (x := i + 1) (by omega) (by omega)] at step
    by_cases c : left - (y.size : Int) < 0
    · exact ⟨-1, step _ (ev_pos c (ev_ret _)), by omega, fun h => by omega⟩
    · obtain ⟨r, hr, hle, hx⟩ := ih (left - y.size) (i + 1) (by omega) (by omega) (by omega) (by omega)
      refine ⟨r, step _ (ev_neg c hr), by omega, fun h x hm => ?_⟩
      rcases List.mem_cons.1 hm with rfl | hm
      · omega
      · have := hx h x hm
        omega
theorem szStringS_ev (l : List ByteArray) (hl : l.length ≤ 9223372036854775807) (hs : ∀ x ∈ l, x.size ≤ 9223372036854775807) (left : Int) (h0 : 0 ≤ left) (h1 : left ≤ 1048576) :
    ∃ r, Ev (fun k => laws_szStringS.f k l left) r ∧ r ≤ left ∧ (0 ≤ r → (l.length : Int) ≤ left ∧ ∀ x ∈ l, (x.size : Int) ≤ left) := by
  unfold laws_szStringS.f
  rw [w64 (x := left - (l.length : Int)) (by omega) (by omega)]
  by_cases c : left - (l.length : Int) < 0
  · exact ⟨-1, ev_pos c (ev_ret _), by omega, fun h => by omega⟩
  · obtain ⟨r, hr, hle, hx⟩ := szStringS_l0 l (by omega) hs l.length (left - l.length) 0 (by omega) (by omega) (by omega) (by omega)
    refine ⟨r, ev_neg c hr, by omega, fun h => ⟨by omega, fun x hm => ?_⟩⟩
    have := hx h x (by simpa using hm)
    omega

theorem szIntS_some (l : List Int) (hl : l.length ≤ 9223372036854775807) (left : Int) (h0 : 0 ≤ left) (h1 : left ≤ 1048576) :
    ∃ r, laws_szIntS.f l left = some r ∧ r ≤ left ∧ (0 ≤ r → (l.length : Int) ≤ left) := by
  unfold laws_szIntS.f
  rw [w64 (x := left - (l.length : Int)) (by omega) (by omega)]
  by_cases c : left - (l.length : Int) < 0
  · exact ⟨-1, if_pos c, by omega, fun h => by omega⟩
  · exact ⟨left - l.length, if_neg c, by omega, fun h => by omega⟩

theorem toStringS_l0 (src : List ByteArray) (hl : src.length ≤ 1048576) (n : Nat) : ∀ (acc : List ByteArray) (i : Int), 0 ≤ i → (src.length : Int) - i = n → acc.length = src.length → acc.take i.toNat = src.take i.toNat → Ev (fun k => laws_toStringS.l0 k src acc i) src := by
  induction n with
  | zero =>
    intro acc i h0 hn ha ht
    refine ev_step ?_
    simp only [laws_toStringS.l0]
    exact ev_neg (by omega) (ev_eq (copy_end h0 (by omega) ha ht) (ev_ret _))
  | succ n ih =>
    intro acc i h0 hn ha ht
    refine ev_step ?_
    simp only [laws_toStringS.l0]
    obtain ⟨h2, h3⟩ := copy_step ByteArray.empty h0 (by omega) ha ht
    refine ev_pos (by omega) (ev_pos h0 (ev_pos (by omega) ?_))
    rw [w64 (x := i + 1) (by omega) (by omega)]
    exact ih _ (i + 1) (by omega) (by omega) h2 h3
theorem toStringS_ev (src : List ByteArray) (hl : src.length ≤ 1048576) : Ev (fun k => laws_toStringS.f k src) src := by
  unfold laws_toStringS.f
  exact ev_pos (by omega) (ev_pos (by omega) (toStringS_l0 src hl src.length _ 0 (by omega) (by omega) (by simp) rfl))

theorem toIntS_l0 (src : List Int) (hl : src.length ≤ 1048576) (n : Nat) : ∀ (acc : List Int) (i : Int), 0 ≤ i → (src.length : Int) - i = n → acc.length = src.length → acc.take i.toNat = src.take i.toNat → Ev (fun k => laws_toIntS.l0 k src acc i) src := by
  induction n with
  | zero =>
    intro acc i h0 hn ha ht
    refine ev_step ?_
    simp only [laws_toIntS.l0]
    exact ev_neg (by omega) (ev_eq (copy_end h0 (by omega) ha ht) (ev_ret _))
  | succ n ih =>
    intro acc i h0 hn ha ht
    refine ev_step ?_
    simp only [laws_toIntS.l0, rd_rdOf]
    obtain ⟨h2, h3⟩ := copy_step 0 h0 (by omega) ha ht
    refine ev_pos (by omega) (ev_pos h0 (ev_pos (by omega) ?_))
    rw [w64 (x := i + 1) (by omega) (by omega)]
    exact ih _ (i + 1) (by omega) (by omega) h2 h3
theorem toIntS_ev (src : List Int) (hl : src.length ≤ 1048576) : Ev (fun k => laws_toIntS.f k src) src := by
  unfold laws_toIntS.f
  exact ev_pos (by omega) (ev_pos (by omega) (toIntS_l0 src hl src.length _ 0 (by omega) (by omega) (by simp) rfl))

theorem eqStringS_l0 (l : List ByteArray) (hl : l.length ≤ 9223372036854775807) (n : Nat) : ∀ i : Int, 0 ≤ i → (l.length : Int) - i = n → Ev (fun k => laws_eqStringS.l0 k l l i) true := by
  induction n with
  | zero =>
    intro i h0 hn
    refine ev_step ?_
    simp only [laws_eqStringS.l0]
    exact ev_neg (by omega) (ev_ret _)
  | succ n ih =>
    intro i h0 hn
    refine ev_step ?_
    simp only [laws_eqStringS.l0]
    refine ev_pos (by omega) (ev_pos h0 (ev_pos (by omega) (ev_pos (by simp) ?_)))
    rw [w64 (x := i + 1) (by omega) (by omega)]
    exact ih (i + 1) (by omega) (by omega)
theorem eqStringS_ev (l : List ByteArray) (hl : l.length ≤ 9223372036854775807) : Ev (fun k => laws_eqStringS.f k l l) true := by
  unfold laws_eqStringS.f
  exact ev_pos rfl (eqStringS_l0 l hl l.length 0 (by omega) (by omega))

theorem eqIntS_l0 (l : List Int) (hl : l.length ≤ 9223372036854775807) (n : Nat) : ∀ i : Int, 0 ≤ i → (l.length : Int) - i = n → Ev (fun k => laws_eqIntS.l0 k l l i) true := by
  induction n with
  | zero =>
    intro i h0 hn
    refine ev_step ?_
    simp only [laws_eqIntS.l0]
    exact ev_neg (by omega) (ev_ret _)
  | succ n ih =>
    intro i h0 hn
    refine ev_step ?_
    simp only [laws_eqIntS.l0]
    refine ev_pos (by omega) (ev_pos h0 (ev_pos (by omega) (ev_pos (by simp) ?_)))
    rw [w64 (x := i + 1) (by omega) (by omega)]
    exact ih (i + 1) (by omega) (by omega)
theorem eqIntS_ev (l : List Int) (hl : l.length ≤ 9223372036854775807) : Ev (fun k => laws_eqIntS.f k l l) true := by
  unfold laws_eqIntS.f
  exact ev_pos rfl (eqIntS_l0 l hl l.length 0 (by omega) (by omega))

theorem szEnv_ev (ns : List ByteArray) (vs : List Int) (h1 : ns.length ≤ 9223372036854775807) (h2 : ∀ x ∈ ns, x.size ≤ 9223372036854775807) (h3 : vs.length ≤ 9223372036854775807) (left : Int) (g0 : 0 ≤ left) (g1 : left ≤ 1048576) :
    ∃ r, Ev (fun k => laws_szEnv.f k ns vs left) r ∧ r ≤ left ∧ (0 ≤ r → (ns.length : Int) ≤ left ∧ (∀ x ∈ ns, (x.size : Int) ≤ left) ∧ (vs.length : Int) ≤ left) := by
  unfold laws_szEnv.f
  obtain ⟨r, hr, hle, hx⟩ := szStringS_ev ns h1 h2 left g0 g1
  by_cases c : r < 0
  · exact ⟨-1, Ev.bind hr (ev_pos c (ev_ret _)), by omega, fun h => by omega⟩
  · obtain ⟨q, hq, hle2, hx2⟩ := szIntS_some vs h3 r (by omega) (by omega)
    obtain ⟨e1, e2⟩ := hx (by omega)
    by_cases c2 : q < 0
    · exact ⟨-1, Ev.bind hr (ev_neg c (ev_bindc hq (ev_pos c2 (ev_ret _)))), by omega, fun h => by omega⟩
    · refine ⟨q, Ev.bind hr (ev_neg c (ev_bindc hq (ev_neg c2 (ev_ret _)))), by omega, fun h => ⟨e1, e2, ?_⟩⟩
      have := hx2 (by omega)
      omega
theorem toEnv_ev (ns : List ByteArray) (vs : List Int) (h1 : ns.length ≤ 1048576) (h2 : vs.length ≤ 1048576) : Ev (fun k => laws_toEnv.f k ns vs) (ns, vs) := by
  unfold laws_toEnv.f
  exact Ev.bind (toStringS_ev ns h1) (Ev.bind (toIntS_ev vs h2) (ev_ret _))
theorem eqEnv_ev (ns : List ByteArray) (vs : List Int) (h1 : ns.length ≤ 9223372036854775807) (h2 : vs.length ≤ 9223372036854775807) : Ev (fun k => laws_eqEnv.f k ns vs ns vs) true := by
  unfold laws_eqEnv.f
  exact Ev.bind (eqStringS_ev ns h1) (ev_pos rfl (Ev.bind (eqIntS_ev vs h2) (ev_pos rfl (ev_ret _))))

def keyList : List ByteArray := [(⟨#[109, 111, 110, 105, 116, 111, 114]⟩ : ByteArray), (⟨#[118, 97, 114]⟩ : ByteArray), (⟨#[113, 117, 101, 117, 101]⟩ : ByteArray), (⟨#[101, 110, 116, 114, 121]⟩ : ByteArray), (⟨#[112, 114, 111, 99, 101, 115, 115]⟩ : ByteArray), (⟨#[117, 115, 101, 115]⟩ : ByteArray), (⟨#[98, 101, 103, 105, 110]⟩ : ByteArray), (⟨#[101, 110, 100]⟩ : ByteArray), (⟨#[105, 102]⟩ : ByteArray), (⟨#[116, 104, 101, 110]⟩ : ByteArray), (⟨#[101, 108, 115, 101]⟩ : ByteArray), (⟨#[119, 104, 105, 108, 101]⟩ : ByteArray), (⟨#[100, 111]⟩ : ByteArray), (⟨#[99, 97, 108, 108]⟩ : ByteArray), (⟨#[116, 111]⟩ : ByteArray), (⟨#[112, 114, 105, 110, 116]⟩ : ByteArray), (⟨#[114, 101, 97, 100]⟩ : ByteArray), (⟨#[100, 101, 108, 97, 121]⟩ : ByteArray), (⟨#[99, 111, 110, 116, 105, 110, 117, 101]⟩ : ByteArray), (⟨#[115, 107, 105, 112]⟩ : ByteArray), (⟨#[97, 110, 100]⟩ : ByteArray), (⟨#[111, 114]⟩ : ByteArray), (⟨#[110, 111, 116]⟩ : ByteArray)]
def isKey (s : ByteArray) : Bool := decide (s ∈ keyList)

def isLet (c : Int) : Bool := decide (97 ≤ c ∧ c ≤ 122)
def nameP (s : ByteArray) : Bool := decide (1 ≤ s.size ∧ s.size ≤ 8) && (bs s).all isLet && !isKey s

def vok (n : Int) : Prop := -1000000 ≤ n ∧ n ≤ 1000000
instance (n : Int) : Decidable (vok n) := inferInstanceAs (Decidable (_ ∧ _))
def bit (b : Bool) : Int := if b then 1 else 0
def rawP (op a b : Int) : Int :=
  if op = 1 then a + b else if op = 2 then a - b else if op = 3 then a * b else if op = 4 then Int.tdiv a b else if op = 5 then Int.tmod a b
  else if op = 6 then bit (decide (a < b)) else if op = 7 then bit (a == b) else if op = 8 then bit (a != 0 && b != 0) else if op = 9 then bit (a != 0 || b != 0) else 0
def calcP (op a b : Int) : Int × Int :=
  if (1 ≤ op ∧ op ≤ 9) ∧ vok a ∧ vok b then (if b = 0 ∧ (op = 4 ∨ op = 5) then (0, 2) else if vok (rawP op a b) then (rawP op a b, 0) else (0, 1)) else (0, 1)
theorem bit_some (b : Bool) : (if b = true then (some 1) else (some 0) : Option Int) = some (bit b) := by cases b <;> rfl
theorem mul_small {a b : Int} (ha : vok a) (hb : vok b) : -1000000000000 ≤ a * b ∧ a * b ≤ 1000000000000 := by
  obtain ⟨a0, a1⟩ := ha
  obtain ⟨b0, b1⟩ := hb
  have h1 : 0 ≤ (1000000 - a) * (1000000 + b) := Int.mul_nonneg (by omega) (by omega)
  have h2 : 0 ≤ (1000000 + a) * (1000000 - b) := Int.mul_nonneg (by omega) (by omega)
  have h3 : 0 ≤ (1000000 - a) * (1000000 - b) := Int.mul_nonneg (by omega) (by omega)
  have h4 : 0 ≤ (1000000 + a) * (1000000 + b) := Int.mul_nonneg (by omega) (by omega)
  rw [Int.sub_mul, Int.mul_add, Int.mul_add] at h1
  rw [Int.add_mul, Int.mul_sub, Int.mul_sub] at h2
  rw [Int.sub_mul, Int.mul_sub, Int.mul_sub] at h3
  rw [Int.add_mul, Int.mul_add, Int.mul_add] at h4
  constructor <;> omega
theorem tdiv_small {a b : Int} (ha : vok a) : -1000000 ≤ Int.tdiv a b ∧ Int.tdiv a b ≤ 1000000 := by
  obtain ⟨a0, a1⟩ := ha
  have h : (Int.tdiv a b).natAbs ≤ a.natAbs := by
    rw [Int.natAbs_tdiv]
    exact Nat.div_le_self _ _
  omega
theorem vok_some_neg : True := trivial

/-- Names right and unlike, values right; pre stands ahead. -/
def pairsOk (pre : List ByteArray) : List ByteArray → List Int → Bool
  | n :: ns, v :: vs => nameP n && decide (vok v) && !decide (n ∈ pre) && pairsOk (pre ++ [n]) ns vs
  | [], _ => true
  | _, [] => true
def envOkP (ns : List ByteArray) (vs : List Int) : Bool := if ns.length = vs.length ∧ ns.length ≤ 8 then pairsOk [] ns vs else false

/-- How many of the first elements pass a test. -/
def runL (p : Int → Bool) : List Int → Nat
  | [] => 0
  | c :: l => if p c = true then runL p l + 1 else 0
theorem runL_le (p : Int → Bool) : ∀ l, runL p l ≤ l.length
  | [] => Nat.le_refl _
  | c :: l => by
    have := runL_le p l
    unfold runL
    split
    · simp
      omega
    · omega
theorem runL_all (p : Int → Bool) : ∀ l, runL p l = l.length ↔ l.all p = true
  | [] => by simp [runL]
  | c :: l => by
    have h := runL_all p l
    unfold runL
    by_cases g : p c = true
    · rw [if_pos g]
      simp [g, h]
    · rw [if_neg g]
      simp [g]

theorem impl_letter_some (c : Int) : impl_letter.f c = some (isLet c) := by
  unfold impl_letter.f isLet
  by_cases g : c ≥ 97
  · rw [if_pos g]
    simp [g]
  · rw [if_neg g]
    have g' : ¬ 97 ≤ c := g
    simp [g']
theorem run_letter_l0 (s : ByteArray) (hs : s.size ≤ 140737488351232) (n : Nat) : ∀ i : Int, 0 ≤ i → i ≤ s.size → (s.size : Int) - i = n → Ev (fun k => impl_run_impl_letter.l0 k s i) (i + runL isLet ((bs s).drop i.toNat)) := by
  induction n with
  | zero =>
    intro i h0 h1 hn
    refine ev_step ?_
    simp only [impl_run_impl_letter.l0]
    rw [bs_end h0 (by omega)]
    exact ev_neg (by omega) (ev_eq (by simp [runL]) (ev_ret _))
  | succ n ih =>
    intro i h0 h1 hn
    refine ev_step ?_
    simp only [impl_run_impl_letter.l0]
    rw [bs_drop h0 (by omega)]
    refine ev_pos (by omega) (ev_pos h0 (ev_bindc (impl_letter_some _) ?_))
    unfold runL
    by_cases g : isLet (bt s i) = true
    · rw [if_pos g, w64 (x := i + 1) (by omega) (by omega)]
      exact ev_pos g (ev_eq (by omega) (ih (i + 1) (by omega) (by omega) (by omega)))
    · rw [if_neg g]
      exact ev_neg g (ev_eq (by simp) (ev_ret _))
theorem run_letter_ev (s : ByteArray) (hs : s.size ≤ 140737488351232) (i : Int) (h0 : 0 ≤ i) (h1 : i ≤ s.size) : Ev (fun k => impl_run_impl_letter.f k s i) (i + runL isLet ((bs s).drop i.toNat)) :=
  run_letter_l0 s hs _ i h0 h1 (Int.toNat_of_nonneg (by omega)).symm

/-- The first place of a text in a list, counted from j on; -1 without it. -/
def idxT (s : ByteArray) : List ByteArray → Int → Int
  | [], _ => -1
  | y :: l, j => if y = s then j else idxT s l (j + 1)
theorem idxT_mem (s : ByteArray) : ∀ (l : List ByteArray) (j : Int), 0 ≤ j → (idxT s l j ≥ 0 ↔ s ∈ l)
  | [], j, _ => by simp [idxT]
  | y :: l, j, h => by
    unfold idxT
    by_cases c : y = s
    · rw [if_pos c]
      simp [c, h]
    · rw [if_neg c, idxT_mem s l (j + 1) (by omega)]
      have c' : ¬ s = y := fun h => c h.symm
      simp [c']
theorem slices_Index_l0 (l : List ByteArray) (s : ByteArray) (hl : l.length ≤ 140737488351232) (n : Nat) : ∀ (i : Int), 0 ≤ i → (l.length : Int) - i = n → Ev (fun k => slices_Index_string_string.l0 k l s (l.length : Int) i) (idxT s (l.drop i.toNat) i) := by
  induction n with
  | zero =>
    intro i h0 hi
    refine ev_step ?_
    simp only [slices_Index_string_string.l0]
    rw [drop_end h0 (by omega)]
    exact ev_neg (by omega) (ev_ret _)
  | succ n ih =>
    intro i h0 hi
    refine ev_step ?_
    simp only [slices_Index_string_string.l0]
    refine ev_pos (by omega) (ev_pos h0 (ev_pos (by omega) ?_))
    rw [drop_rd (d := ByteArray.empty) h0 (by omega)]
    unfold idxT
    by_cases c : s.toList = (rdOf ByteArray.empty l i).toList
    · refine ev_pos c (ev_eq ?_ (ev_ret _))
      rw [toList_eq_iff] at c
      rw [if_pos c.symm]
    · refine ev_neg c ?_
      rw [w64 (x := i + 1) (by omega) (by omega)]
      refine ev_eq ?_ (ih (i + 1) (by omega) (by omega))
      rw [toList_eq_iff] at c
      rw [if_neg (fun h => c h.symm)]
theorem slices_Index_ev (l : List ByteArray) (s : ByteArray) (hl : l.length ≤ 140737488351232) : Ev (fun k => slices_Index_string_string.f k l s) (idxT s l 0) :=
  slices_Index_l0 l s hl l.length 0 (by omega) (by omega)

theorem slices_Contains_ev (l : List ByteArray) (s : ByteArray) (hl : l.length ≤ 140737488351232) : Ev (fun k => slices_Contains_string_string.f k l s) (decide (s ∈ l)) := by
  unfold slices_Contains_string_string.f
  refine Ev.bind (slices_Index_ev l s hl) (ev_eq ?_ (ev_ret _))
  rw [decide_eq_decide]
  exact idxT_mem s l 0 (by omega)

theorem impl_KeyWord_ev (s : ByteArray) : Ev (fun k => impl_KeyWord.f k s) (isKey s) := by
  unfold impl_KeyWord.f
  exact Ev.bind (slices_Contains_ev keyList s (by decide)) (ev_ret _)

theorem within_some (n lo hi : Int) : impl_within.f n lo hi = some (decide (lo ≤ n ∧ n ≤ hi)) := by
  unfold impl_within.f
  by_cases c : n ≥ lo
  · rw [if_pos c]
    simp [c]
  · rw [if_neg c]
    have c' : ¬ lo ≤ n := c
    simp [c']

theorem impl_NameOk_ev (s : ByteArray) (hs : s.size ≤ 140737488351232) : Ev (fun k => impl_NameOk.f k s) (nameP s) := by
  unfold impl_NameOk.f
  rw [within_some]
  refine ev_bindc rfl ?_
  have hl := bs_length s
  have ha := runL_all isLet (bs s)
  have hr := run_letter_ev s hs 0 (by omega) (by omega)
  simp only [Int.toNat_zero, List.drop_zero, Int.zero_add] at hr
  unfold nameP
  by_cases c : 1 ≤ s.size ∧ s.size ≤ 8
  · refine ev_pos (by simp; omega) (Ev.bind hr ?_)
    by_cases c2 : (bs s).all isLet = true
    · refine ev_pos ?_ (Ev.bind (impl_KeyWord_ev s) (ev_eq ?_ (ev_ret _)))
      · have := ha.2 c2
        omega
      · simp only [c2, Bool.and_true]
        simp [c]
    · refine ev_neg ?_ (ev_eq ?_ (ev_ret _))
      · intro h
        exact c2 (ha.1 (by omega))
      · have c3 : (bs s).all isLet = false := by simpa using c2
        rw [c3]
        simp
  · refine ev_neg (by simp; omega) (ev_eq ?_ (ev_ret _))
    rw [show decide (1 ≤ s.size ∧ s.size ≤ 8) = false by simpa using c]
    rfl

theorem impl_ValOk_some2 (n : Int) : impl_ValOk.f n = some (decide (vok n)) := by
  unfold impl_ValOk.f
  rw [within_some]
  rfl
theorem impl_EnvOk_l0 (ns : List ByteArray) (vs : List Int) (hl : ns.length = vs.length) (h8 : ns.length ≤ 8) (hs : ∀ x ∈ ns, x.size ≤ 1048576) (n : Nat) : ∀ i : Int, 0 ≤ i → (ns.length : Int) - i = n → Ev (fun k => impl_EnvOk.l0 k ns (ns.length : Int) i ns vs) (pairsOk (ns.take i.toNat) (ns.drop i.toNat) (vs.drop i.toNat)) := by
  induction n with
  | zero =>
    intro i h0 hn
    refine ev_step ?_
    simp only [impl_EnvOk.l0]
    rw [drop_end (l := ns) h0 (by omega)]
    unfold pairsOk
    exact ev_neg (by omega) (ev_ret _)
  | succ n ih =>
    intro i h0 hn
    have hz := hs _ (rdOf_mem (d := ByteArray.empty) (l := ns) h0 (by omega))
    refine ev_step ?_
    simp only [impl_EnvOk.l0]
    rw [drop_rd (d := ByteArray.empty) (l := ns) h0 (by omega), drop_rd (d := (0 : Int)) (l := vs) h0 (by omega)]
    unfold pairsOk
    refine ev_pos (by omega) (ev_pos h0 (ev_pos (by omega) (Ev.bind (impl_NameOk_ev _ (by omega)) ?_)))
    by_cases c : nameP (rdOf ByteArray.empty ns i) = true
    · refine ev_pos c (ev_pos (by omega) (Ev.bind (slices_Contains_ev _ _ (by simp; omega)) ?_))
      by_cases c2 : rdOf ByteArray.empty ns i ∈ ns.take i.toNat
      · exact ev_pos (by simpa using c2) (ev_eq (by simp [c2]) (ev_ret _))
      · refine ev_neg (by simpa using c2) (ev_pos (by omega) (ev_bindc (impl_ValOk_some2 _) ?_))
        by_cases c3 : vok (rd vs i)
        · refine ev_pos (by simpa using c3) ?_
          rw [w64 (x := i + 1) (by omega) (by omega)]
          refine ev_eq ?_ (ih (i + 1) (by omega) (by omega))
          have c4 : vok (rdOf 0 vs i) := c3
          rw [take_rd ByteArray.empty h0 (by omega)]
          simp [c, c2, c4]
        · have c4 : ¬ vok (rdOf 0 vs i) := c3
          exact ev_neg (by simpa using c3) (ev_eq (by simp [c4]) (ev_ret _))
    · exact ev_neg c (ev_eq (by simp [c]) (ev_ret _))
theorem impl_EnvOk_ev (ns : List ByteArray) (vs : List Int) (hs : ∀ x ∈ ns, x.size ≤ 1048576) : Ev (fun k => impl_EnvOk.f k ns vs) (envOkP ns vs) := by
  unfold impl_EnvOk.f envOkP
  by_cases c : ns.length = vs.length
  · refine ev_pos (by omega) (ev_step ?_)
    simp only [impl_EnvOk.j0]
    by_cases c2 : ns.length ≤ 8
    · rw [if_pos (show ns.length = vs.length ∧ ns.length ≤ 8 from ⟨c, c2⟩)]
      have h := impl_EnvOk_l0 ns vs c c2 hs ns.length 0 (by omega) (by omega)
      exact ev_neg (by simp; omega) (by simpa using h)
    · rw [if_neg (show ¬ (ns.length = vs.length ∧ ns.length ≤ 8) from fun h => c2 h.2)]
      exact ev_pos (by simp; omega) (ev_ret _)
  · rw [if_neg (show ¬ (ns.length = vs.length ∧ ns.length ≤ 8) from fun h => c h.1)]
    refine ev_neg (by omega) (ev_step ?_)
    simp only [impl_EnvOk.j0]
    exact ev_pos (by simp) (ev_ret _)

theorem spec_KeyWord_l0 (s : ByteArray) (l : List ByteArray) (hl : l.length ≤ 1000) (n : Nat) : ∀ (i : Int), 0 ≤ i → (l.length : Int) - i = n → Ev (fun k => spec_KeyWord.l0 k s l i) (decide (s ∈ l.drop i.toNat)) := by
  induction n with
  | zero =>
    intro i h0 hi
    refine ev_step ?_
    simp only [spec_KeyWord.l0]
    rw [drop_end h0 (by omega)]
    exact ev_neg (by omega) (ev_eq (by simp) (ev_ret _))
  | succ n ih =>
    intro i h0 hi
    refine ev_step ?_
    simp only [spec_KeyWord.l0]
    refine ev_pos (by omega) (ev_pos h0 ?_)
    rw [drop_rd (d := ByteArray.empty) h0 (by omega)]
    by_cases c : (rdOf ByteArray.empty l i).toList = s.toList
    · refine ev_pos c (ev_eq ?_ (ev_ret _))
      rw [toList_eq_iff] at c
      simp [c]
    · refine ev_neg c ?_
      rw [w64 (x := i + 1) (by omega) (by omega)]
      refine ev_eq ?_ (ih (i + 1) (by omega) (by omega))
      rw [toList_eq_iff] at c
      have c' : ¬ s = rdOf ByteArray.empty l i := fun h => c h.symm
      simp [c']
theorem spec_KeyWord_ev (s : ByteArray) : Ev (fun k => spec_KeyWord.f k s) (isKey s) := by
  unfold spec_KeyWord.f spec_l04Keys.f
  exact ev_bindc (a := keyList) rfl (spec_KeyWord_l0 s keyList (by decide) keyList.length 0 (by omega) (by simp))

theorem l01In_some (n lo hi : Int) : spec_l01In.f n lo hi = some (decide (lo ≤ n ∧ n ≤ hi)) := by
  unfold spec_l01In.f
  by_cases c : n ≥ lo
  · rw [if_pos c]
    simp [c]
  · rw [if_neg c]
    have c' : ¬ lo ≤ n := c
    simp [c']

theorem spec_NameOk_l0 (s : ByteArray) (hs : s.size ≤ 140737488351232) (n : Nat) : ∀ i : Int, 0 ≤ i → (s.size : Int) - i = n → Ev (fun k => spec_NameOk.l0 k s i) (decide (1 ≤ s.size ∧ s.size ≤ 8) && ((bs s).drop i.toNat).all isLet && !isKey s) := by
  induction n with
  | zero =>
    intro i h0 hn
    refine ev_step ?_
    simp only [spec_NameOk.l0]
    rw [bs_end h0 (by omega), l01In_some]
    refine ev_neg (by omega) (ev_bindc rfl ?_)
    by_cases c : 1 ≤ s.size ∧ s.size ≤ 8
    · exact ev_pos (by simp; omega) (Ev.bind (spec_KeyWord_ev s) (ev_eq (by simp [c]) (ev_ret _)))
    · refine ev_neg (by simp; omega) (ev_eq ?_ (ev_ret _))
      rw [show decide (1 ≤ s.size ∧ s.size ≤ 8) = false by simpa using c]
      rfl
  | succ n ih =>
    intro i h0 hn
    refine ev_step ?_
    simp only [spec_NameOk.l0]
    rw [bs_drop h0 (by omega), List.all_cons]
    refine ev_pos (by omega) (ev_pos h0 ?_)
    by_cases c : bt s i < 97
    · refine ev_pos c (ev_eq ?_ (ev_ret _))
      have : isLet (bt s i) = false := by unfold isLet; simp; omega
      simp [this]
    · refine ev_neg c ?_
      by_cases c2 : bt s i > 122
      · refine ev_pos c2 (ev_eq ?_ (ev_ret _))
        have : isLet (bt s i) = false := by unfold isLet; simp; omega
        simp [this]
      · rw [w64 (x := i + 1) (by omega) (by omega)]
        have : isLet (bt s i) = true := by unfold isLet; simp; omega
        rw [this, Bool.true_and]
        exact ev_neg c2 (ih (i + 1) (by omega) (by omega))
theorem spec_NameOk_ev (s : ByteArray) (hs : s.size ≤ 140737488351232) : Ev (fun k => spec_NameOk.f k s) (nameP s) := by
  unfold spec_NameOk.f
  have h := spec_NameOk_l0 s hs s.size 0 (by omega) (by omega)
  simpa [nameP] using h

theorem l08In_l0 (l : List ByteArray) (s : ByteArray) (hl : l.length ≤ 9223372036854775806) (n : Nat) : ∀ i : Int, 0 ≤ i → (l.length : Int) - i = n → Ev (fun k => spec_l08In.l0 k l s i) (decide (s ∈ l.drop i.toNat)) := by
  induction n with
  | zero =>
    intro i h0 hn
    refine ev_step ?_
    simp only [spec_l08In.l0]
    rw [drop_end h0 (by omega)]
    exact ev_neg (by omega) (ev_eq (by simp) (ev_ret _))
  | succ n ih =>
    intro i h0 hn
    refine ev_step ?_
    simp only [spec_l08In.l0]
    refine ev_pos (by omega) (ev_pos h0 ?_)
    rw [drop_rd (d := ByteArray.empty) h0 (by omega)]
    by_cases c : (rdOf ByteArray.empty l i).toList = s.toList
    · refine ev_pos c (ev_eq ?_ (ev_ret _))
      rw [toList_eq_iff] at c
      simp [c]
    · refine ev_neg c ?_
      rw [w64 (x := i + 1) (by omega) (by omega)]
      refine ev_eq ?_ (ih (i + 1) (by omega) (by omega))
      rw [toList_eq_iff] at c
      have c' : ¬ s = rdOf ByteArray.empty l i := fun h => c h.symm
      simp [c']
theorem l08In_ev (l : List ByteArray) (s : ByteArray) (hl : l.length ≤ 9223372036854775806) : Ev (fun k => spec_l08In.f k l s) (decide (s ∈ l)) := by
  unfold spec_l08In.f
  have h := l08In_l0 l s hl l.length 0 (by omega) (by omega)
  simpa using h

theorem spec_ValOk_some2 (n : Int) : spec_ValOk.f n = some (decide (vok n)) := by
  unfold spec_ValOk.f
  rw [l01In_some]
  rfl
theorem spec_EnvOk_l0 (ns : List ByteArray) (vs : List Int) (hl : ns.length = vs.length) (h8 : ns.length ≤ 8) (hs : ∀ x ∈ ns, x.size ≤ 1048576) (n : Nat) : ∀ i : Int, 0 ≤ i → (ns.length : Int) - i = n → Ev (fun k => spec_EnvOk.l0 k i ns vs) (pairsOk (ns.take i.toNat) (ns.drop i.toNat) (vs.drop i.toNat)) := by
  induction n with
  | zero =>
    intro i h0 hn
    refine ev_step ?_
    simp only [spec_EnvOk.l0]
    rw [drop_end (l := ns) h0 (by omega)]
    unfold pairsOk
    exact ev_neg (by omega) (ev_ret _)
  | succ n ih =>
    intro i h0 hn
    have hz := hs _ (rdOf_mem (d := ByteArray.empty) (l := ns) h0 (by omega))
    refine ev_step ?_
    simp only [spec_EnvOk.l0]
    rw [drop_rd (d := ByteArray.empty) (l := ns) h0 (by omega), drop_rd (d := (0 : Int)) (l := vs) h0 (by omega)]
    unfold pairsOk
    refine ev_pos (by omega) (ev_pos h0 (Ev.bind (spec_NameOk_ev _ (by omega)) ?_))
    by_cases c : nameP (rdOf ByteArray.empty ns i) = true
    · refine ev_pos c (ev_pos (by omega) (ev_bindc (spec_ValOk_some2 _) ?_))
      by_cases c3 : vok (rd vs i)
      · have c4 : vok (rdOf 0 vs i) := c3
        refine ev_pos (by simpa using c3) (ev_pos (by omega) (Ev.bind (l08In_ev _ _ (by simp; omega)) ?_))
        by_cases c2 : rdOf ByteArray.empty ns i ∈ ns.take i.toNat
        · exact ev_pos (by simpa using c2) (ev_eq (by simp [c2]) (ev_ret _))
        · refine ev_neg (by simpa using c2) ?_
          rw [w64 (x := i + 1) (by omega) (by omega)]
          refine ev_eq ?_ (ih (i + 1) (by omega) (by omega))
          rw [take_rd ByteArray.empty h0 (by omega)]
          simp [c, c2, c4]
      · have c4 : ¬ vok (rdOf 0 vs i) := c3
        exact ev_neg (by simpa using c3) (ev_eq (by simp [c4]) (ev_ret _))
    · exact ev_neg c (ev_eq (by simp [c]) (ev_ret _))
theorem spec_EnvOk_ev (ns : List ByteArray) (vs : List Int) (hs : ∀ x ∈ ns, x.size ≤ 1048576) : Ev (fun k => spec_EnvOk.f k ns vs) (envOkP ns vs) := by
  unfold spec_EnvOk.f envOkP
  by_cases c : ns.length = vs.length
  · refine ev_pos (by omega) (ev_step ?_)
    simp only [spec_EnvOk.j0]
    by_cases c2 : ns.length ≤ 8
    · rw [if_pos (show ns.length = vs.length ∧ ns.length ≤ 8 from ⟨c, c2⟩)]
      have h := spec_EnvOk_l0 ns vs c c2 hs ns.length 0 (by omega) (by omega)
      exact ev_neg (by simp; omega) (by simpa using h)
    · rw [if_neg (show ¬ (ns.length = vs.length ∧ ns.length ≤ 8) from fun h => c2 h.2)]
      exact ev_pos (by simp; omega) (ev_ret _)
  · rw [if_neg (show ¬ (ns.length = vs.length ∧ ns.length ≤ 8) from fun h => c h.1)]
    refine ev_neg (by omega) (ev_step ?_)
    simp only [spec_EnvOk.j0]
    exact ev_pos (by simp) (ev_ret _)

theorem FnExactEnvOk : Go.Proofs.Ytegeahiflkjhmaa.OpnFnExactEnvOk.Pure := by
  intro ns vs ⟨h1, h2⟩ ⟨h3, _⟩
  refine Ev.rounds ?_
  unfold laws_FnExactEnvOk.f
  obtain ⟨r, hr, _, hx⟩ := szEnv_ev ns vs h1 h2 h3 1048576 (by omega) (by omega)
  refine Ev.bind hr ?_
  by_cases c : r < 0
  · exact ev_pos c (ev_ret _)
  · obtain ⟨e1, e2, e3⟩ := hx (by omega)
    have hs : ∀ x ∈ ns, x.size ≤ 1048576 := fun x hx => by have := e2 x hx; omega
    have ht := toEnv_ev ns vs (by omega) (by omega)
    exact ev_neg c (Ev.bind ht (Ev.bind (spec_EnvOk_ev ns vs hs) (Ev.bind ht (Ev.bind (impl_EnvOk_ev ns vs hs) (ev_neg (by simp) (Ev.bind ht (Ev.bind (eqEnv_ev ns vs (by omega) (by omega)) (ev_pos rfl (ev_ret _)))))))))

end Go.Proofs.Ytegeahiflkjhmaa.Pure
