/- The program's GateNew answers as the reference's at every whole number, and its answer owns its memory. No condition. -/
import Derived.Test.YtfgobagibkbocaaPFnExactGateNewx2
set_option linter.unusedVariables false
set_option linter.unusedSimpArgs false
namespace Go.Proofs.Ytfgobagibkbocaa.Pure
open Go.RowKit Go.Proofs.Ytfgobagibkbocaa.PFnExactGateNew Go.Proofs.YtfgobagibkbocaaW.PrintWords Go.Proofs.YtfgobagibkbocaaW.PrintLast Go.Proofs.YtfgobagibkbocaaW.PrintMore

theorem w64 {x : Int} (h0 : -9223372036854775808 ≤ x) (h1 : x ≤ 9223372036854775807) : wrap64 x = x := by
  unfold wrap64
  omega
theorem wf_i64 {x : Int} (h : (Lit.int .i64 x).wf = true) : -9223372036854775808 ≤ x ∧ x ≤ 9223372036854775807 := by
  simp [Lit.wf, IntKind.min, IntKind.max, IntKind.signed, IntKind.bits] at h
  omega

instance lawBA : LawfulBEq ByteArray where
  eq_of_beq {a b} h := by
    cases a
    cases b
    congr 1
    exact eq_of_beq (α := Array UInt8) h
  rfl {a} := by
    cases a
    exact BEq.rfl (α := Array UInt8)

/-! Rounds -/
theorem ev_step {α : Type} {g : Nat → Option α} {r : α} (h : Ev (fun k => g (k + 1)) r) : Ev g r := Ev.step (fun _ => rfl) h
theorem ev_ret {α : Type} (r : α) : Ev (fun _ => some r) r := ⟨0, fun _ _ => rfl⟩
theorem ev_pos {α : Type} {c : Prop} [Decidable c] {g f : Nat → Option α} {r : α} (h : c) (k : Ev g r) : Ev (fun n => if c then g n else f n) r :=
  Ev.congr (fun _ => if_pos h) k
theorem ev_neg {α : Type} {c : Prop} [Decidable c] {g f : Nat → Option α} {r : α} (h : ¬ c) (k : Ev f r) : Ev (fun n => if c then g n else f n) r :=
  Ev.congr (fun _ => if_neg h) k
theorem ev_bindc {α β : Type} {x : Option α} {f : Nat → α → Option β} {a : α} {r : β} (h : x = some a) (k : Ev (fun n => f n a) r) : Ev (fun n => x.bind (f n)) r := by
  subst h
  exact k
theorem ev_rpos {α : Type} {c : Prop} [Decidable c] {g : Nat → Option α} {a b : α} (h : c) (k : Ev g a) : Ev g (if c then a else b) := by
  rw [if_pos h]
  exact k
theorem ev_rneg {α : Type} {c : Prop} [Decidable c] {g : Nat → Option α} {a b : α} (h : ¬ c) (k : Ev g b) : Ev g (if c then a else b) := by
  rw [if_neg h]
  exact k
theorem ev_eq {α : Type} {g : Nat → Option α} {r r' : α} (h : r = r') (k : Ev g r) : Ev g r' := h ▸ k

/-! Lists and texts as lists of numbers -/
def bs (s : ByteArray) : List Int := s.data.toList.map fun c => (c.toNat : Int)
theorem bs_length (s : ByteArray) : (bs s).length = s.size := by
  unfold bs
  rw [List.length_map, Array.length_toList]
  rfl
theorem bs_range {s : ByteArray} {x : Int} (h : x ∈ bs s) : 0 ≤ x ∧ x < 256 := by
  unfold bs at h
  obtain ⟨c, _, rfl⟩ := List.mem_map.1 h
  have := c.toNat_lt
  omega
theorem bs_inj {a b : ByteArray} (h : bs a = bs b) : a = b := by
  have h2 : a.data.toList = b.data.toList := by
    have h3 := congrArg (List.map fun n : Int => UInt8.ofNat n.toNat) h
    unfold bs at h3
    rw [List.map_map, List.map_map] at h3
    have e : ∀ l : List UInt8, l.map ((fun n : Int => UInt8.ofNat n.toNat) ∘ fun c => (c.toNat : Int)) = l := by
      intro l
      induction l with
      | nil => rfl
      | cons c l ih =>
        rw [List.map_cons, ih]
        simp
    rwa [e, e] at h3
  cases a
  cases b
  congr 1
  exact Array.toList_inj.1 h2
theorem toList_eq_iff {a b : ByteArray} : a.toList = b.toList ↔ a = b := by
  constructor
  · intro h
    rw [ByteArray.toList_eq, ByteArray.toList_eq] at h
    cases a
    cases b
    congr 1
    exact Array.toList_inj.1 h
  · rintro rfl
    rfl
theorem drop_rd {α : Type} {d : α} {l : List α} {i : Int} (h0 : 0 ≤ i) (h1 : i < l.length) : l.drop i.toNat = rdOf d l i :: l.drop (i + 1).toNat := by
  have h2 : i.toNat < l.length := by omega
  rw [List.drop_eq_getElem_cons h2]
  unfold rdOf
  rw [List.getD_eq_getElem?_getD, List.getElem?_eq_getElem h2, show (i + 1).toNat = i.toNat + 1 by omega]
  rfl
theorem drop_end {α : Type} {l : List α} {i : Int} (h0 : 0 ≤ i) (h1 : ¬ i < l.length) : l.drop i.toNat = [] := List.drop_eq_nil_of_le (by omega)
theorem bs_rd {s : ByteArray} {i : Int} (h0 : 0 ≤ i) (h1 : i < s.size) : rdOf 0 (bs s) i = bt s i := by
  have h2 : i.toNat < s.size := by omega
  have h3 : i.toNat < s.data.toList.length := by
    rw [Array.length_toList]
    exact h2
  unfold rdOf bs bt
  rw [List.getD_eq_getElem?_getD, List.getElem?_map, List.getElem?_eq_getElem h3, dif_pos h2]
  rfl
theorem bs_drop {s : ByteArray} {i : Int} (h0 : 0 ≤ i) (h1 : i < s.size) : (bs s).drop i.toNat = bt s i :: (bs s).drop (i + 1).toNat := by
  rw [drop_rd (d := 0) h0 (by rw [bs_length]; exact h1), bs_rd h0 h1]
theorem bs_end {s : ByteArray} {i : Int} (h0 : 0 ≤ i) (h1 : ¬ i < s.size) : (bs s).drop i.toNat = [] := drop_end h0 (by rw [bs_length]; exact h1)
theorem strOf_bs (s : ByteArray) : strOfNums (bs s) = s := by
  have e : (bs s).map (fun n => UInt8.ofNat n.toNat) = s.data.toList := by
    unfold bs
    rw [List.map_map]
    conv => rhs; rw [← List.map_id s.data.toList]
    exact List.map_congr_left fun c _ => by simp
  unfold strOfNums
  rw [e]
theorem bs_strOf {l : List Int} (h : ∀ x ∈ l, 0 ≤ x ∧ x < 256) : bs (strOfNums l) = l := by
  unfold bs strOfNums
  rw [List.map_map]
  conv => rhs; rw [← List.map_id l]
  refine List.map_congr_left fun x hx => ?_
  obtain ⟨h0, h1⟩ := h x hx
  simp only [Function.comp_apply, UInt8.toNat_ofNat', id_eq]
  omega
theorem bs_append (a b : ByteArray) : bs (a ++ b) = bs a ++ bs b := by simp [bs]
theorem strOf_append (a b : List Int) : strOfNums (a ++ b) = strOfNums a ++ strOfNums b := by
  cases h : strOfNums a ++ strOfNums b
  rename_i d
  have := congrArg ByteArray.data h
  simp only [ByteArray.data_append] at this
  unfold strOfNums at this ⊢
  simp only [← this]
  simp
theorem ev_id {α : Type} {g : Nat → Option α} {r : α} (h : ∀ k, g k = some r) : Ev g r := ⟨0, fun k _ => h k⟩

theorem set_take {α : Type} (l : List α) (i : Nat) (x : α) (h : i < l.length) : (l.set i x).take (i + 1) = l.take i ++ [x] := by
  apply List.ext_getElem?
  intro j
  rcases Nat.lt_trichotomy j i with hj | hj | hj
  · rw [List.getElem?_take_of_lt (by omega), List.getElem?_set_ne (by omega), List.getElem?_append_left (by simp; omega), List.getElem?_take_of_lt hj]
  · subst hj
    rw [List.getElem?_take_of_lt (by omega), List.getElem?_set_self h, List.getElem?_append_right (by simp; omega)]
    simp [Nat.min_eq_left (Nat.le_of_lt h)]
  · rw [List.getElem?_eq_none (by simp; omega), List.getElem?_eq_none (by simp; omega)]
theorem take_rd {α : Type} (d : α) {l : List α} {i : Int} (h0 : 0 ≤ i) (h1 : i < l.length) : l.take (i + 1).toNat = l.take i.toNat ++ [rdOf d l i] := by
  have h2 : i.toNat < l.length := by omega
  rw [show (i + 1).toNat = i.toNat + 1 by omega, List.take_succ_eq_append_getElem h2]
  unfold rdOf
  rw [List.getD_eq_getElem?_getD, List.getElem?_eq_getElem h2]
  rfl
theorem rd_rdOf (l : List Int) (i : Int) : rd l i = rdOf 0 l i := rfl
theorem rdOf_mem {α : Type} {d : α} {l : List α} {i : Int} (h0 : 0 ≤ i) (h1 : i < l.length) : rdOf d l i ∈ l := by
  unfold rdOf
  rw [List.getD_eq_getElem?_getD, List.getElem?_eq_getElem (show i.toNat < l.length by omega)]
  exact List.getElem_mem _
/-- A copy made element by element, one round. -/
theorem copy_step {α : Type} (d : α) {src acc : List α} {i : Int} (h0 : 0 ≤ i) (h1 : i < src.length) (hl : acc.length = src.length) (ht : acc.take i.toNat = src.take i.toNat) :
    (acc.set i.toNat (rdOf d src i)).length = src.length ∧ (acc.set i.toNat (rdOf d src i)).take (i + 1).toNat = src.take (i + 1).toNat := by
  refine ⟨by simpa using hl, ?_⟩
  rw [take_rd d h0 h1, ← ht, show (i + 1).toNat = i.toNat + 1 by omega, set_take _ _ _ (by omega)]
theorem copy_end {α : Type} {src acc : List α} {i : Int} (h0 : 0 ≤ i) (h1 : ¬ i < src.length) (hl : acc.length = src.length) (ht : acc.take i.toNat = src.take i.toNat) : acc = src := by
  rw [List.take_of_length_le (by omega), List.take_of_length_le (by omega)] at ht
  exact ht

theorem eqIntS_l0 (l : List Int) (hl : l.length ≤ 9223372036854775807) (n : Nat) : ∀ i : Int, 0 ≤ i → (l.length : Int) - i = n → Ev (fun k => laws_eqIntS.l0 k l l i) true := by
  induction n with
  | zero =>
    intro i h0 hn
    refine ev_step ?_
    simp only [laws_eqIntS.l0]
    exact ev_neg (by omega) (ev_ret _)
  | succ n ih =>
    intro i h0 hn
    refine ev_step ?_
    simp only [laws_eqIntS.l0]
    refine ev_pos (by omega) (ev_pos h0 (ev_pos (by omega) (ev_pos (by simp) ?_)))
    rw [w64 (x := i + 1) (by omega) (by omega)]
    exact ih (i + 1) (by omega) (by omega)
theorem eqIntS_ev (l : List Int) (hl : l.length ≤ 9223372036854775807) : Ev (fun k => laws_eqIntS.f k l l) true := by
  unfold laws_eqIntS.f
  exact ev_pos rfl (eqIntS_l0 l hl l.length 0 (by omega) (by omega))

/-- n numbers from m on. -/
def upFrom (m : Int) : Nat → List Int
  | 0 => []
  | n + 1 => m :: upFrom (m + 1) n
theorem upFrom_length (n : Nat) : ∀ m : Int, (upFrom m n).length = n := by
  induction n with
  | zero => intro m; rfl
  | succ n ih => intro m; simp [upFrom, ih]
theorem upFrom_snoc (n : Nat) : ∀ m : Int, upFrom m n ++ [m + n] = upFrom m (n + 1) := by
  induction n with
  | zero => intro m; simp [upFrom]
  | succ n ih =>
    intro m
    have h := ih (m + 1)
    rw [show m + 1 + (n : Int) = m + ((n + 1 : Nat) : Int) by omega] at h
    show m :: (upFrom (m + 1) n ++ [m + ((n + 1 : Nat) : Int)]) = m :: upFrom (m + 1) (n + 1)
    rw [h]
theorem markIntS_l0 (m : Int) (N : Nat) (hN : N ≤ 1000000000) (hm : 0 ≤ m) (hm2 : m ≤ 1000000000000) (n : Nat) : ∀ (l : List Int) (i : Nat), l.length = N → i + n = N → l.take i = upFrom m i → Ev (fun k => laws_markIntS.l0 k l (m + i) i) (m + N, upFrom m N) := by
  induction n with
  | zero =>
    intro l i hl hn ht
    refine ev_step ?_
    simp only [laws_markIntS.l0]
    refine ev_neg (by omega) (ev_eq ?_ (ev_ret _))
    obtain rfl : i = N := by omega
    rw [List.take_of_length_le (by omega)] at ht
    rw [ht]
  | succ n ih =>
    intro l i hl hn ht
    refine ev_step ?_
    simp only [laws_markIntS.l0]
    refine ev_pos (by omega) (ev_pos (by omega) ?_)
    rw [w64 (x := m + (i : Int) + 1) (by omega) (by omega), w64 (x := (i : Int) + 1) (by omega) (by omega)]
    have h := ih (l.set i (m + i)) (i + 1) (by simpa using hl) (by omega) (by rw [set_take _ _ _ (by omega), ht, upFrom_snoc])
    rw [show m + ((i + 1 : Nat) : Int) = m + (i : Int) + 1 by omega, show ((i + 1 : Nat) : Int) = (i : Int) + 1 by omega] at h
    exact h
theorem markIntS_ev (l : List Int) (m : Int) (hl : l.length ≤ 1000000000) (hm : 0 ≤ m) (hm2 : m ≤ 1000000000000) : Ev (fun k => laws_markIntS.f k l m) (m + l.length, upFrom m l.length) := by
  unfold laws_markIntS.f
  have h := markIntS_l0 m l.length hl hm hm2 l.length l 0 rfl (by omega) rfl
  simpa using h
theorem heldIntS_l0 (m : Int) (N : Nat) (hN : N ≤ 1000000000) (hm : 0 ≤ m) (hm2 : m ≤ 1000000000000) (n : Nat) : ∀ (i : Nat), i + n = N → Ev (fun k => laws_heldIntS.l0 k (upFrom m N) (m + i) i) (m + N) := by
  induction n with
  | zero =>
    intro i hn
    refine ev_step ?_
    simp only [laws_heldIntS.l0]
    have := upFrom_length N m
    refine ev_neg (by omega) (ev_eq ?_ (ev_ret _))
    obtain rfl : i = N := by omega
    rfl
  | succ n ih =>
    intro i hn
    refine ev_step ?_
    simp only [laws_heldIntS.l0]
    have hl := upFrom_length N m
    have hr : ∀ (N : Nat) (m : Int) (i : Nat), i < N → (upFrom m N)[i]? = some (m + i) := by
      intro N
      induction N with
      | zero => intro m i h; omega
      | succ N ih2 =>
        intro m i h
        cases i with
        | zero => simp [upFrom]
        | succ i =>
          simp only [upFrom, List.getElem?_cons_succ]
          rw [ih2 (m + 1) i (by omega)]
          congr 1
          omega
    refine ev_pos (by omega) (ev_pos (by omega) (ev_pos ?_ ?_))
    · unfold rd
      rw [List.getD_eq_getElem?_getD, show ((i : Int)).toNat = i by omega, hr N m i (by omega)]
      rfl
    · rw [w64 (x := m + (i : Int) + 1) (by omega) (by omega), w64 (x := (i : Int) + 1) (by omega) (by omega)]
      have h := ih (i + 1) (by omega)
      rw [show m + ((i + 1 : Nat) : Int) = m + (i : Int) + 1 by omega, show ((i + 1 : Nat) : Int) = (i : Int) + 1 by omega] at h
      exact h
theorem heldIntS_ev (m : Int) (N : Nat) (hN : N ≤ 1000000000) (hm : 0 ≤ m) (hm2 : m ≤ 1000000000000) : Ev (fun k => laws_heldIntS.f k (upFrom m N) m) (m + N) := by
  unfold laws_heldIntS.f
  have h := heldIntS_l0 m N hN hm hm2 N 0 (by omega)
  simpa using h

theorem spec_GateNew_ev (q : Int) : Ev (fun k => spec_GateNew.f k q) (-1, ([] : List Int), List.replicate (min q.toNat 2) (-1)) := by
  unfold spec_GateNew.f
  have end2 : ∀ i : Int, ¬ (i < q ∧ i < 2) → ∀ l : List Int, Ev (fun k => spec_GateNew.l0 k q i (-1) l) (-1, ([] : List Int), l) := by
    intro i h l
    refine ev_step ?_
    simp only [spec_GateNew.l0]
    by_cases c : i < q
    · exact ev_pos c (ev_neg (fun h2 => h ⟨c, h2⟩) (ev_ret _))
    · exact ev_neg c (ev_ret _)
  by_cases c0 : 0 < q
  · refine ev_step ?_
    simp only [spec_GateNew.l0]
    refine ev_pos c0 (ev_pos (by omega) (ev_pos (by simp) ?_))
    rw [w64 (x := 0 + 1) (by omega) (by omega)]
    by_cases c1 : 1 < q
    · refine ev_step ?_
      simp only [spec_GateNew.l0]
      refine ev_pos (by omega) (ev_pos (by omega) (ev_pos (by simp) ?_))
      rw [w64 (x := 0 + 1 + 1) (by omega) (by omega)]
      refine ev_eq ?_ (end2 _ (by omega) _)
      rw [show min q.toNat 2 = 2 by omega]
      rfl
    · refine ev_eq ?_ (end2 _ (by omega) _)
      rw [show min q.toNat 2 = 1 by omega]
      rfl
  · refine ev_eq ?_ (end2 0 (by omega) [])
    rw [show min q.toNat 2 = 0 by omega]
    rfl
theorem impl_GateNew_ev (q : Int) : Ev (fun k => impl_GateNew.f k q) (-1, ([] : List Int), List.replicate (min q.toNat 2) (-1)) := by
  unfold impl_GateNew.f
  have hmn : ∀ i : Int, i < mn q 2 ↔ i < q ∧ i < 2 := by
    intro i
    unfold mn
    split <;> omega
  have end2 : ∀ i : Int, ¬ (i < q ∧ i < 2) → ∀ l : List Int, Ev (fun k => impl_GateNew.l0 k q i (-1) l) (-1, ([] : List Int), l) := by
    intro i h l
    refine ev_step ?_
    simp only [impl_GateNew.l0]
    exact ev_neg (fun h2 => h ((hmn i).1 h2)) (ev_ret _)
  by_cases c0 : 0 < q
  · refine ev_step ?_
    simp only [impl_GateNew.l0]
    refine ev_pos ((hmn 0).2 ⟨c0, by omega⟩) (ev_pos (by simp) ?_)
    rw [w64 (x := 0 + 1) (by omega) (by omega)]
    by_cases c1 : 1 < q
    · refine ev_step ?_
      simp only [impl_GateNew.l0]
      refine ev_pos ((hmn _).2 ⟨by omega, by omega⟩) (ev_pos (by simp) ?_)
      rw [w64 (x := 0 + 1 + 1) (by omega) (by omega)]
      refine ev_eq ?_ (end2 _ (by omega) _)
      rw [show min q.toNat 2 = 2 by omega]
      rfl
    · refine ev_eq ?_ (end2 _ (by omega) _)
      rw [show min q.toNat 2 = 1 by omega]
      rfl
  · refine ev_eq ?_ (end2 0 (by omega) [])
    rw [show min q.toNat 2 = 0 by omega]
    rfl
theorem FnExactGateNew : laws_FnExactGateNew.Pure := by
  intro q _
  refine Ev.rounds ?_
  unfold laws_FnExactGateNew.f
  have eqg : ∀ l : List Int, l.length ≤ 2 → Ev (fun k => laws_eqGate.f k (-1) [] l (-1) [] l) true := by
    intro l hl
    unfold laws_eqGate.f
    exact ev_pos rfl (Ev.bind (eqIntS_ev [] (by simp)) (ev_pos rfl (Ev.bind (eqIntS_ev l (by omega)) (ev_pos rfl (ev_ret _)))))
  have hlen : (List.replicate (min q.toNat 2) (-1 : Int)).length ≤ 2 := by
    rw [List.length_replicate]
    omega
  have hs := spec_GateNew_ev q
  have hi := impl_GateNew_ev q
  generalize List.replicate (min q.toNat 2) (-1 : Int) = l at hlen hs hi
  have mark : Ev (fun k => laws_markGate.f k (-1) [] l 1) (1 + (l.length : Int), [], upFrom 1 l.length) := by
    unfold laws_markGate.f
    have h1 := markIntS_ev [] 1 (by simp) (by omega) (by omega)
    have h2 := markIntS_ev l 1 (by omega) (by omega) (by omega)
    exact Ev.bind h1 (Ev.bind h2 (ev_ret _))
  have held : Ev (fun k => laws_heldGate.f k (-1) [] (upFrom 1 l.length) 1) (1 + (l.length : Int)) := by
    unfold laws_heldGate.f
    have h1 := heldIntS_ev 1 0 (by omega) (by omega) (by omega)
    have h2 := heldIntS_ev 1 l.length (by omega) (by omega) (by omega)
    exact Ev.bind h1 (ev_neg (by simp) (Ev.bind h2 (ev_neg (by omega) (ev_ret _))))
  exact Ev.bind hs (Ev.bind hi (Ev.bind (eqg l hlen) (ev_pos rfl (Ev.bind mark (Ev.bind held (ev_neg (by omega) (ev_pos rfl
    (Ev.bind hi (Ev.bind (eqg l hlen) (ev_pos rfl (Ev.bind held (ev_neg (by omega) (ev_pos rfl (ev_ret _))))))))))))))

end Go.Proofs.Ytfgobagibkbocaa.Pure
