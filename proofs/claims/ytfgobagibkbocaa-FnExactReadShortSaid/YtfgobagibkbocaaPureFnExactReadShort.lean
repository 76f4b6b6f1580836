/- The program's ReadShort answers as the reference's at every text and place. No condition. -/
import Derived.Test.YtfgobagibkbocaaPFnExactReadShortx2
set_option linter.unusedVariables false
set_option linter.unusedSimpArgs false
namespace Go.Proofs.Ytfgobagibkbocaa.Pure
open Go.RowKit Go.Proofs.Ytfgobagibkbocaa.PFnExactReadShort Go.Proofs.YtfgobagibkbocaaW.PrintWords Go.Proofs.YtfgobagibkbocaaW.PrintLast Go.Proofs.YtfgobagibkbocaaW.PrintMore

theorem w64 {x : Int} (h0 : -9223372036854775808 ≤ x) (h1 : x ≤ 9223372036854775807) : wrap64 x = x := by
  unfold wrap64
  omega
theorem wf_i64 {x : Int} (h : (Lit.int .i64 x).wf = true) : -9223372036854775808 ≤ x ∧ x ≤ 9223372036854775807 := by
  simp [Lit.wf, IntKind.min, IntKind.max, IntKind.signed, IntKind.bits] at h
  omega

instance lawBA : LawfulBEq ByteArray where
  eq_of_beq {a b} h := by
    cases a
    cases b
    congr 1
    exact eq_of_beq (α := Array UInt8) h
  rfl {a} := by
    cases a
    exact BEq.rfl (α := Array UInt8)

/-! Rounds -/
theorem ev_step {α : Type} {g : Nat → Option α} {r : α} (h : Ev (fun k => g (k + 1)) r) : Ev g r := Ev.step (fun _ => rfl) h
theorem ev_ret {α : Type} (r : α) : Ev (fun _ => some r) r := ⟨0, fun _ _ => rfl⟩
theorem ev_pos {α : Type} {c : Prop} [Decidable c] {g f : Nat → Option α} {r : α} (h : c) (k : Ev g r) : Ev (fun n => if c then g n else f n) r :=
  Ev.congr (fun _ => if_pos h) k
theorem ev_neg {α : Type} {c : Prop} [Decidable c] {g f : Nat → Option α} {r : α} (h : ¬ c) (k : Ev f r) : Ev (fun n => if c then g n else f n) r :=
  Ev.congr (fun _ => if_neg h) k
theorem ev_bindc {α β : Type} {x : Option α} {f : Nat → α → Option β} {a : α} {r : β} (h : x = some a) (k : Ev (fun n => f n a) r) : Ev (fun n => x.bind (f n)) r := by
  subst h
  exact k
theorem ev_rpos {α : Type} {c : Prop} [Decidable c] {g : Nat → Option α} {a b : α} (h : c) (k : Ev g a) : Ev g (if c then a else b) := by
  rw [if_pos h]
  exact k
theorem ev_rneg {α : Type} {c : Prop} [Decidable c] {g : Nat → Option α} {a b : α} (h : ¬ c) (k : Ev g b) : Ev g (if c then a else b) := by
  rw [if_neg h]
  exact k
theorem ev_eq {α : Type} {g : Nat → Option α} {r r' : α} (h : r = r') (k : Ev g r) : Ev g r' := h ▸ k

/-! Lists and texts as lists of numbers -/
def bs (s : ByteArray) : List Int := s.data.toList.map fun c => (c.toNat : Int)
theorem bs_length (s : ByteArray) : (bs s).length = s.size := by
  unfold bs
  rw [List.length_map, Array.length_toList]
  rfl
theorem bs_range {s : ByteArray} {x : Int} (h : x ∈ bs s) : 0 ≤ x ∧ x < 256 := by
  unfold bs at h
  obtain ⟨c, _, rfl⟩ := List.mem_map.1 h
  have := c.toNat_lt
  omega
theorem bs_inj {a b : ByteArray} (h : bs a = bs b) : a = b := by
  have h2 : a.data.toList = b.data.toList := by
    have h3 := congrArg (List.map fun n : Int => UInt8.ofNat n.toNat) h
    unfold bs at h3
    rw [List.map_map, List.map_map] at h3
    have e : ∀ l : List UInt8, l.map ((fun n : Int => UInt8.ofNat n.toNat) ∘ fun c => (c.toNat : Int)) = l := by
      intro l
      induction l with
      | nil => rfl
      | cons c l ih =>
        rw [List.map_cons, ih]
        simp
    rwa [e, e] at h3
  cases a
  cases b
  congr 1
  exact Array.toList_inj.1 h2
theorem toList_eq_iff {a b : ByteArray} : a.toList = b.toList ↔ a = b := by
  constructor
  · intro h
    rw [ByteArray.toList_eq, ByteArray.toList_eq] at h
    cases a
    cases b
    congr 1
    exact Array.toList_inj.1 h
  · rintro rfl
    rfl
theorem drop_rd {α : Type} {d : α} {l : List α} {i : Int} (h0 : 0 ≤ i) (h1 : i < l.length) : l.drop i.toNat = rdOf d l i :: l.drop (i + 1).toNat := by
  have h2 : i.toNat < l.length := by omega
  rw [List.drop_eq_getElem_cons h2]
  unfold rdOf
  rw [List.getD_eq_getElem?_getD, List.getElem?_eq_getElem h2, show (i + 1).toNat = i.toNat + 1 by omega]
  rfl
theorem drop_end {α : Type} {l : List α} {i : Int} (h0 : 0 ≤ i) (h1 : ¬ i < l.length) : l.drop i.toNat = [] := List.drop_eq_nil_of_le (by omega)
theorem bs_rd {s : ByteArray} {i : Int} (h0 : 0 ≤ i) (h1 : i < s.size) : rdOf 0 (bs s) i = bt s i := by
  have h2 : i.toNat < s.size := by omega
  have h3 : i.toNat < s.data.toList.length := by
    rw [Array.length_toList]
    exact h2
  unfold rdOf bs bt
  rw [List.getD_eq_getElem?_getD, List.getElem?_map, List.getElem?_eq_getElem h3, dif_pos h2]
  rfl
theorem bs_drop {s : ByteArray} {i : Int} (h0 : 0 ≤ i) (h1 : i < s.size) : (bs s).drop i.toNat = bt s i :: (bs s).drop (i + 1).toNat := by
  rw [drop_rd (d := 0) h0 (by rw [bs_length]; exact h1), bs_rd h0 h1]
theorem bs_end {s : ByteArray} {i : Int} (h0 : 0 ≤ i) (h1 : ¬ i < s.size) : (bs s).drop i.toNat = [] := drop_end h0 (by rw [bs_length]; exact h1)
theorem strOf_bs (s : ByteArray) : strOfNums (bs s) = s := by
  have e : (bs s).map (fun n => UInt8.ofNat n.toNat) = s.data.toList := by
    unfold bs
    rw [List.map_map]
    conv => rhs; rw [← List.map_id s.data.toList]
    exact List.map_congr_left fun c _ => by simp
  unfold strOfNums
  rw [e]
theorem bs_strOf {l : List Int} (h : ∀ x ∈ l, 0 ≤ x ∧ x < 256) : bs (strOfNums l) = l := by
  unfold bs strOfNums
  rw [List.map_map]
  conv => rhs; rw [← List.map_id l]
  refine List.map_congr_left fun x hx => ?_
  obtain ⟨h0, h1⟩ := h x hx
  simp only [Function.comp_apply, UInt8.toNat_ofNat', id_eq]
  omega
theorem bs_append (a b : ByteArray) : bs (a ++ b) = bs a ++ bs b := by simp [bs]
theorem strOf_append (a b : List Int) : strOfNums (a ++ b) = strOfNums a ++ strOfNums b := by
  cases h : strOfNums a ++ strOfNums b
  rename_i d
  have := congrArg ByteArray.data h
  simp only [ByteArray.data_append] at this
  unfold strOfNums at this ⊢
  simp only [← this]
  simp
theorem ev_id {α : Type} {g : Nat → Option α} {r : α} (h : ∀ k, g k = some r) : Ev g r := ⟨0, fun k _ => h k⟩

/-- The bytes of a number's text; d tells how many more there may be. -/
def varL : Nat → Int → List Int
  | 0, n => [n]
  | d + 1, n => if n > 127 then (n % 128 + 128) :: varL d (n / 128) else [n]
def var5 (n : Int) : List Int := varL 4 n
theorem varL_byte (d : Nat) : ∀ {n : Int}, 0 ≤ n → n < 128 * 128 ^ d → ∀ x ∈ varL d n, 0 ≤ x ∧ x < 256 := by
  induction d with
  | zero =>
    intro n h0 h1 x hx
    simp only [varL, List.mem_singleton] at hx
    omega
  | succ d ih =>
    intro n h0 h1 x hx
    unfold varL at hx
    by_cases c : n > 127
    · rw [if_pos c] at hx
      rcases List.mem_cons.1 hx with hx | hx
      · omega
      · refine ih (n := n / 128) (by omega) ?_ x hx
        rw [Int.pow_succ] at h1
        omega
    · rw [if_neg c, List.mem_singleton] at hx
      omega

theorem bs_extract (s : ByteArray) (a b : Nat) : bs (s.extract a b) = ((bs s).drop a).take (b - a) := by
  unfold bs
  rw [ByteArray.data_extract, Array.toList_extract, ← List.map_drop, ← List.map_take]

/-- The bytes up to the first below 128, d at most. -/
def prefixV : Nat → List Int → Option (List Int)
  | 0, _ => none
  | _ + 1, [] => none
  | d + 1, c :: l => if c < 128 then some [c] else (prefixV d l).map fun L => c :: L
def valV : List Int → Int
  | [] => 0
  | c :: l => c % 128 + 128 * valV l
def outR (p : Int) : Option (List Int) → Int × Int × Bool
  | none => (0, 0, false)
  | some T => if valV T ≤ 1000000000 ∧ (var5 (valV T)).length = T.length then (valV T, p + T.length, true) else (0, 0, false)
def readV (s : ByteArray) (p : Int) : Int × Int × Bool := if 0 ≤ p ∧ p ≤ s.size then outR p (prefixV 5 ((bs s).drop p.toNat)) else (0, 0, false)
theorem valV_nonneg : ∀ l : List Int, 0 ≤ valV l
  | [] => by simp [valV]
  | c :: l => by
    have := valV_nonneg l
    unfold valV
    omega
theorem valV_lt : ∀ l : List Int, valV l < 128 ^ l.length
  | [] => by simp [valV]
  | c :: l => by
    have := valV_lt l
    unfold valV
    rw [List.length_cons, Int.pow_succ]
    omega
theorem valV_append (P L : List Int) : valV (P ++ L) = valV P + 128 ^ P.length * valV L := by
  induction P with
  | nil => simp [valV]
  | cons c P ih =>
    have e : ∀ l : List Int, valV (c :: l) = c % 128 + 128 * valV l := fun _ => rfl
    rw [List.cons_append, List.length_cons, e, e, ih, show (128 : Int) ^ (P.length + 1) * valV L = 128 * (128 ^ P.length * valV L) by rw [Int.pow_succ, Int.mul_comm (128 ^ P.length) 128, Int.mul_assoc]]
    omega
theorem canon (P : List Int) : ∀ (b : Int) (d : Nat), (∀ c ∈ P, 128 ≤ c ∧ c < 256) → 0 ≤ b → b < 128 → P.length ≤ d → ((varL d (valV (P ++ [b]))).length = P.length + 1 ↔ varL d (valV (P ++ [b])) = P ++ [b]) := by
  induction P with
  | nil =>
    intro b d _ h0 h1 _
    have e : varL d (valV ([] ++ [b])) = [b] := by
      simp only [List.nil_append, valV]
      rw [Int.emod_eq_of_lt h0 h1]
      cases d with
      | zero => simp [varL]
      | succ d =>
        simp only [varL]
        rw [if_neg (by omega)]
        simp
    rw [e]
    simp
  | cons c P ih =>
    intro b d hP h0 h1 hd
    obtain ⟨e, rfl⟩ : ∃ e, d = e + 1 := ⟨d - 1, by simp at hd; omega⟩
    have hc := hP c (by simp)
    have ih2 := ih b e (fun x hx => hP x (by simp [hx])) h0 h1 (by simp at hd; omega)
    have hv := valV_nonneg (P ++ [b])
    rw [List.cons_append, show valV (c :: (P ++ [b])) = c % 128 + 128 * valV (P ++ [b]) from rfl]
    unfold varL
    by_cases g : c % 128 + 128 * valV (P ++ [b]) > 127
    · rw [if_pos g, show (c % 128 + 128 * valV (P ++ [b])) % 128 + 128 = c by omega, show (c % 128 + 128 * valV (P ++ [b])) / 128 = valV (P ++ [b]) by omega]
      simp only [List.length_cons, List.cons.injEq, true_and, Nat.add_right_cancel_iff]
      exact ih2
    · rw [if_neg g]
      have : (P ++ [b]).length = P.length + 1 := by simp
      simp
theorem shl7 (x : Int) (i : Nat) (hi : i ≤ 4) (h0 : 0 ≤ x) (h1 : x < 128) : shl .i64 x (7 * i) = x * 128 ^ i := by
  have hcase : i = 0 ∨ i = 1 ∨ i = 2 ∨ i = 3 ∨ i = 4 := by omega
  have hw : ∀ y : Int, -9223372036854775808 ≤ y → y ≤ 9223372036854775807 → IntKind.i64.wrap y = y := fun y a b => by
    rw [IntKind.wrap_i64]
    omega
  rcases hcase with rfl | rfl | rfl | rfl | rfl
  · show IntKind.i64.wrap (x * 1) = x * 1
    exact hw _ (by omega) (by omega)
  · show IntKind.i64.wrap (x * 128) = x * 128
    exact hw _ (by omega) (by omega)
  · show IntKind.i64.wrap (x * 16384) = x * 16384
    exact hw _ (by omega) (by omega)
  · show IntKind.i64.wrap (x * 2097152) = x * 2097152
    exact hw _ (by omega) (by omega)
  · show IntKind.i64.wrap (x * 268435456) = x * 268435456
    exact hw _ (by omega) (by omega)

theorem within_some (n lo hi : Int) : impl_within.f n lo hi = some (decide (lo ≤ n ∧ n ≤ hi)) := by
  unfold impl_within.f
  by_cases c : n ≥ lo
  · rw [if_pos c]
    simp [c]
  · rw [if_neg c]
    have c' : ¬ lo ≤ n := c
    simp [c']

theorem impl_VarText_l0 (d : Nat) : ∀ (n : Int) (o : List Int), 0 ≤ n → n < 128 * 128 ^ d → o.length + d < 1000 → n ≤ 9223372036854775807 → Ev (fun k => impl_VarText.l0 k n o) (strOfNums (o ++ varL d n), true) := by
  induction d with
  | zero =>
    intro n o h0 h1 ho hm
    refine ev_step ?_
    simp only [impl_VarText.l0]
    refine ev_neg (by omega) (ev_pos (by omega) (ev_eq ?_ (ev_ret _)))
    rw [Int.emod_eq_of_lt h0 (by omega)]
    rfl
  | succ d ih =>
    intro n o h0 h1 ho hm
    refine ev_step ?_
    simp only [impl_VarText.l0]
    unfold varL
    by_cases c : n > 127
    · rw [if_pos c]
      refine ev_pos c (ev_pos (by omega) ?_)
      rw [Int.tdiv_eq_ediv_of_nonneg h0, Int.tmod_eq_emod_of_nonneg h0, w64 (x := n / 128) (by omega) (by omega), w64 (x := n % 128 + 128) (by omega) (by omega), Int.emod_eq_of_lt (a := n % 128 + 128) (by omega) (by omega)]
      rw [Int.pow_succ] at h1
      refine ev_eq ?_ (ih (n / 128) (o ++ [n % 128 + 128]) (by omega) (by omega) (by simp; omega) (by omega))
      simp
    · rw [if_neg c]
      refine ev_neg c (ev_pos (by omega) (ev_eq ?_ (ev_ret _)))
      rw [Int.emod_eq_of_lt h0 (by omega)]
theorem impl_VarText_ev {n : Int} (h0 : 0 ≤ n) (h1 : n ≤ 1000000000) : Ev (fun k => impl_VarText.f k n) (strOfNums (var5 n), true) := by
  unfold impl_VarText.f var5
  rw [within_some]
  refine ev_bindc rfl (ev_pos (by simp [h0, h1]) ?_)
  exact impl_VarText_l0 4 n [] h0 (by omega) (by simp) (by omega)
theorem impl_VarText_no {n : Int} (h : ¬ (0 ≤ n ∧ n ≤ 1000000000)) : Ev (fun k => impl_VarText.f k n) ((⟨#[]⟩ : ByteArray), false) := by
  unfold impl_VarText.f
  rw [within_some]
  exact ev_bindc rfl (ev_neg (by simpa using h) (ev_ret _))

theorem impl_ReadVar_l0 (s : ByteArray) (hs : s.size ≤ 140737488351232) (p : Int) (hp : 0 ≤ p) (hp2 : p ≤ s.size) (d : Nat) : ∀ (i : Nat) (P : List Int), i + d = 5 → P.length = i → (p + i ≤ s.size) →
    Ev (fun k => impl_ReadVar.l0 k s p (valV P) i) (outR p ((prefixV d ((bs s).drop (p + i).toNat)).map fun L => P ++ L)) := by
  induction d with
  | zero =>
    intro i P hi hP hl
    refine ev_step ?_
    simp only [impl_ReadVar.l0]
    refine ev_neg (by omega) (ev_step ?_)
    simp only [impl_ReadVar.j1]
    exact ev_neg (by simp) (ev_ret _)
  | succ d ih =>
    intro i P hi hP hl
    refine ev_step ?_
    simp only [impl_ReadVar.l0]
    refine ev_pos (by omega) (ev_step ?_)
    simp only [impl_ReadVar.j1]
    rw [w64 (x := p + (i : Int)) (by omega) (by omega)]
    by_cases c : p + i < s.size
    · refine ev_pos (by simpa using c) (ev_pos (by omega) (ev_pos c ?_))
      rw [w64 (x := 7 * (i : Int)) (by omega) (by omega)]
      refine ev_pos (by omega) ?_
      have hb := bt_range s (p + i)
      rw [bs_drop (by omega) c]
      generalize bt s (p + i) = b at hb ⊢
      rw [w64 (x := b) (by omega) (by omega), Int.tmod_eq_emod_of_nonneg hb.1, shl7 _ i (by omega) (by omega) (by omega)]
      have hv := valV_nonneg P
      have hv2 := valV_lt P
      have hap : valV (P ++ [b]) = valV P + b % 128 * 128 ^ i := by
        rw [valV_append, hP, Int.mul_comm]
        simp [valV]
      have hap1 := valV_lt (P ++ [b])
      have hap0 := valV_nonneg (P ++ [b])
      have hlen : (P ++ [b]).length = i + 1 := by simp [hP]
      have hpow : (128 : Int) ^ (P ++ [b]).length ≤ 34359738368 := by
        rw [hlen]
        have hcase : i = 0 ∨ i = 1 ∨ i = 2 ∨ i = 3 ∨ i = 4 := by omega
        rcases hcase with rfl | rfl | rfl | rfl | rfl <;> decide
      rw [← hap, w64 (x := valV (P ++ [b])) (by omega) (by omega), w64 (x := (i : Int) + 1) (by omega) (by omega)]
      by_cases c2 : b < 128
      · refine ev_pos c2 ?_
        simp only [prefixV, if_pos c2, Option.map_some, outR]
        by_cases c3 : valV (P ++ [b]) ≤ 1000000000
        · refine Ev.bind (impl_VarText_ev hap0 c3) (ev_pos rfl ?_)
          rw [strOfNums_size]
          by_cases c4 : (var5 (valV (P ++ [b]))).length = (P ++ [b]).length
          · refine ev_rpos ⟨c3, c4⟩ ?_
            refine ev_pos (by rw [c4, hlen]; rfl) (ev_eq ?_ (ev_ret _))
            rw [w64 (by omega) (by omega), hlen]
            congr 2
            omega
          · refine ev_rneg (fun h => c4 h.2) ?_
            exact ev_neg (by omega) (ev_ret _)
        · refine ev_rneg (fun h => c3 h.1) ?_
          exact Ev.bind (impl_VarText_no (fun h => c3 h.2)) (ev_neg (by simp) (ev_ret _))
      · refine ev_neg c2 ?_
        simp only [prefixV, if_neg c2, Option.map_map]
        have h := ih (i + 1) (P ++ [b]) (by omega) hlen (by omega)
        refine ev_eq ?_ h
        rw [show p + ((i + 1 : Nat) : Int) = p + (i : Int) + 1 by omega]
        congr 1
        congr 1
        funext L
        simp
    · refine ev_neg (by simpa using c) (ev_eq ?_ (ev_ret _))
      rw [bs_end (by omega) c]
      rfl
theorem impl_ReadVar_ev (s : ByteArray) (hs : s.size ≤ 140737488351232) (p : Int) : Ev (fun k => impl_ReadVar.f k s p) (readV s p) := by
  unfold impl_ReadVar.f readV
  rw [within_some]
  by_cases c : 0 ≤ p ∧ p ≤ s.size
  · rw [if_pos c]
    refine ev_bindc rfl (ev_pos (by simpa using c) (ev_eq ?_ (impl_ReadVar_l0 s hs p c.1 c.2 5 0 [] (by omega) rfl (by omega))))
    simp
  · rw [if_neg c]
    exact ev_bindc rfl (ev_neg (by simpa using c) (ev_ret _))

theorem spec_l01Var_l0 (d : Nat) : ∀ (n : Int) (o : List Int), 0 ≤ n → n < 128 * 128 ^ d → o.length + d < 1000 → n ≤ 9223372036854775807 → Ev (fun k => spec_l01Var.l0 k n o) (strOfNums (o ++ varL d n)) := by
  induction d with
  | zero =>
    intro n o h0 h1 ho hm
    refine ev_step ?_
    simp only [spec_l01Var.l0]
    refine ev_neg (by omega) (ev_pos (by omega) (ev_eq ?_ (ev_ret _)))
    rw [Int.emod_eq_of_lt h0 (by omega)]
    rfl
  | succ d ih =>
    intro n o h0 h1 ho hm
    refine ev_step ?_
    simp only [spec_l01Var.l0]
    unfold varL
    by_cases c : n > 127
    · rw [if_pos c]
      refine ev_pos c (ev_pos (by omega) ?_)
      rw [Int.tdiv_eq_ediv_of_nonneg h0, Int.tmod_eq_emod_of_nonneg h0, w64 (x := n / 128) (by omega) (by omega), w64 (x := n % 128 + 128) (by omega) (by omega), Int.emod_eq_of_lt (a := n % 128 + 128) (by omega) (by omega)]
      rw [Int.pow_succ] at h1
      refine ev_eq ?_ (ih (n / 128) (o ++ [n % 128 + 128]) (by omega) (by omega) (by simp; omega) (by omega))
      simp
    · rw [if_neg c]
      refine ev_neg c (ev_pos (by omega) (ev_eq ?_ (ev_ret _)))
      rw [Int.emod_eq_of_lt h0 (by omega)]
theorem spec_l01Var_ev {n : Int} (h0 : 0 ≤ n) (h1 : n < 34359738368) : Ev (fun k => spec_l01Var.f k n) (strOfNums (var5 n)) := by
  unfold spec_l01Var.f var5
  exact spec_l01Var_l0 4 n [] h0 (by omega) (by simp) (by omega)

theorem l01In_some (n lo hi : Int) : spec_l01In.f n lo hi = some (decide (lo ≤ n ∧ n ≤ hi)) := by
  unfold spec_l01In.f
  by_cases c : n ≥ lo
  · rw [if_pos c]
    simp [c]
  · rw [if_neg c]
    have c' : ¬ lo ≤ n := c
    simp [c']

theorem spec_ReadVar_l0 (s : ByteArray) (hs : s.size ≤ 140737488351232) (p : Int) (hp : 0 ≤ p) (hp2 : p ≤ s.size) (d : Nat) : ∀ (i : Nat) (P : List Int), i + d = 5 → P.length = i → (p + i ≤ s.size) → (bs s).drop p.toNat = P ++ (bs s).drop (p + i).toNat → (∀ c ∈ P, 128 ≤ c ∧ c < 256) →
    Ev (fun k => spec_ReadVar.l0 k s p (valV P) (128 ^ i) (p + i)) (outR p ((prefixV d ((bs s).drop (p + i).toNat)).map fun L => P ++ L)) := by
  induction d with
  | zero =>
    intro i P hi hP hl hd hr
    refine ev_step ?_
    simp only [spec_ReadVar.l0]
    rw [w64 (x := p + 5) (by omega) (by omega)]
    have go : Ev (fun k => spec_ReadVar.j1 k s p (valV P) (128 ^ i) (p + i) false) (0, 0, false) := by
      refine ev_step ?_
      simp only [spec_ReadVar.j1]
      exact ev_neg (by simp) (ev_ret _)
    by_cases c : p + i < s.size
    · refine ev_pos c ?_
      rw [show decide (p + (i : Int) < p + 5) = false by simp; omega]
      exact go
    · exact ev_neg c go
  | succ d ih =>
    intro i P hi hP hl hd hr
    refine ev_step ?_
    simp only [spec_ReadVar.l0]
    by_cases c : p + i < s.size
    · refine ev_pos c (ev_step ?_)
      simp only [spec_ReadVar.j1]
      rw [w64 (x := p + 5) (by omega) (by omega)]
      refine ev_pos (by simp; omega) (ev_pos (by omega) (ev_pos c ?_))
      have hb := bt_range s (p + i)
      have hdr := bs_drop (by omega) c
      rw [hdr]
      rw [hdr] at hd
      generalize bt s (p + i) = b at hb hd hdr ⊢
      have hv := valV_nonneg P
      have hap : valV (P ++ [b]) = valV P + b % 128 * 128 ^ i := by
        rw [valV_append, hP, Int.mul_comm]
        simp [valV]
      have hap1 := valV_lt (P ++ [b])
      have hap0 := valV_nonneg (P ++ [b])
      have hlen : (P ++ [b]).length = i + 1 := by simp [hP]
      have hpow : (128 : Int) ^ (P ++ [b]).length ≤ 34359738368 := by
        rw [hlen]
        have hcase : i = 0 ∨ i = 1 ∨ i = 2 ∨ i = 3 ∨ i = 4 := by omega
        rcases hcase with rfl | rfl | rfl | rfl | rfl <;> decide
      have hsc : (128 : Int) ^ i * 128 ≤ 34359738368 ∧ 0 ≤ (128 : Int) ^ i * 128 := by
        have hcase : i = 0 ∨ i = 1 ∨ i = 2 ∨ i = 3 ∨ i = 4 := by omega
        rcases hcase with rfl | rfl | rfl | rfl | rfl <;> decide
      have hpr : 0 ≤ b % 128 * 128 ^ i := Int.mul_nonneg (by omega) (by omega)
      rw [w64 (x := b) (by omega) (by omega), Int.tmod_eq_emod_of_nonneg hb.1, w64 (x := b % 128 * 128 ^ i) (by omega) (by omega)]
      rw [← hap, w64 (x := valV (P ++ [b])) (by omega) (by omega), w64 (x := p + (i : Int) + 1) (by omega) (by omega), w64 (x := (128 : Int) ^ i * 128) (by omega) (by omega)]
      by_cases c2 : b < 128
      · refine ev_pos c2 ?_
        simp only [prefixV, if_pos c2, Option.map_some, outR]
        by_cases c3 : valV (P ++ [b]) ≤ 1000000000
        · refine ev_neg (by omega) (Ev.bind (spec_l01Var_ev hap0 (by omega)) (ev_pos hp (ev_pos (by omega) (ev_pos (by omega) ?_))))
          have hex : bs (s.extract p.toNat (p + (i : Int) + 1).toNat) = P ++ [b] := by
            rw [bs_extract, hd, show (p + (i : Int) + 1).toNat - p.toNat = P.length + 1 by omega, List.take_append, List.take_of_length_le (by omega)]
            simp
          have hcan := canon P b 4 hr hb.1 c2 (by omega)
          have hby : ∀ x ∈ var5 (valV (P ++ [b])), 0 ≤ x ∧ x < 256 := varL_byte 4 hap0 (by omega)
          have hiff : (strOfNums (var5 (valV (P ++ [b])))).toList = (s.extract p.toNat (p + (i : Int) + 1).toNat).toList ↔ (var5 (valV (P ++ [b]))).length = (P ++ [b]).length := by
            rw [toList_eq_iff, show (P ++ [b]).length = P.length + 1 by simp]
            unfold var5 at hby ⊢
            rw [hcan]
            constructor
            · intro h
              exact (bs_strOf hby).symm.trans ((congrArg bs h).trans hex)
            · intro h
              refine bs_inj ?_
              rw [hex, bs_strOf hby, h]
          by_cases c4 : (var5 (valV (P ++ [b]))).length = (P ++ [b]).length
          · refine ev_rpos ⟨c3, c4⟩ ?_
            refine ev_pos (hiff.2 c4) (ev_eq ?_ (ev_ret _))
            rw [hlen]
            congr 2
            omega
          · refine ev_rneg (fun h => c4 h.2) ?_
            exact ev_neg (fun h => c4 (hiff.1 h)) (ev_ret _)
        · refine ev_rneg (fun h => c3 h.1) ?_
          exact ev_pos (by omega) (ev_ret _)
      · refine ev_neg c2 ?_
        simp only [prefixV, if_neg c2, Option.map_map]
        have h := ih (i + 1) (P ++ [b]) (by omega) hlen (by omega) ?_ ?_
        · rw [show p + ((i + 1 : Nat) : Int) = p + (i : Int) + 1 by omega, Int.pow_succ] at h
          refine ev_eq ?_ h
          congr 1
          congr 1
          funext L
          simp
        · rw [show p + ((i + 1 : Nat) : Int) = p + (i : Int) + 1 by omega, hd]
          simp
        · intro x hx
          rcases List.mem_append.1 hx with hx | hx
          · exact hr x hx
          · rw [List.mem_singleton.1 hx]
            omega
    · refine ev_neg c (ev_step ?_)
      simp only [spec_ReadVar.j1]
      refine ev_neg (by simp) (ev_eq ?_ (ev_ret _))
      rw [bs_end (by omega) c]
      rfl
theorem spec_ReadVar_ev (s : ByteArray) (hs : s.size ≤ 140737488351232) (p : Int) : Ev (fun k => spec_ReadVar.f k s p) (readV s p) := by
  unfold spec_ReadVar.f readV
  rw [l01In_some]
  by_cases c : 0 ≤ p ∧ p ≤ s.size
  · rw [if_pos c]
    have h := spec_ReadVar_l0 s hs p c.1 c.2 5 0 [] (by omega) rfl (by omega) (by simp) (by simp)
    refine ev_bindc rfl (ev_pos (by simpa using c) ?_)
    simpa [valV] using h
  · rw [if_neg c]
    exact ev_bindc rfl (ev_neg (by simpa using c) (ev_ret _))

/-- The place behind a number lies in the text. -/
theorem prefixV_length : ∀ (d : Nat) (l L : List Int), prefixV d l = some L → L.length ≤ l.length
  | 0, _, _, h => by simp [prefixV] at h
  | _ + 1, [], _, h => by simp [prefixV] at h
  | d + 1, c :: l, L, h => by
    unfold prefixV at h
    by_cases g : c < 128
    · rw [if_pos g] at h
      cases h
      simp
    · rw [if_neg g] at h
      obtain ⟨M, hM, rfl⟩ := Option.map_eq_some_iff.1 h
      have := prefixV_length d l M hM
      simp
      omega
theorem readV_place (s : ByteArray) (p : Int) (h : (readV s p).2.2 = true) : 0 ≤ (readV s p).1 ∧ 0 ≤ (readV s p).2.1 ∧ (readV s p).2.1 ≤ s.size := by
  unfold readV at h ⊢
  by_cases c : 0 ≤ p ∧ p ≤ s.size
  · rw [if_pos c] at h ⊢
    cases e : prefixV 5 ((bs s).drop p.toNat) with
    | none =>
      rw [e] at h
      simp [outR] at h
    | some L =>
      rw [e] at h
      have hl := prefixV_length 5 _ L e
      have hb := bs_length s
      have hv := valV_nonneg L
      simp only [List.length_drop] at hl
      unfold outR at h ⊢
      by_cases g : valV L ≤ 1000000000 ∧ (var5 (valV L)).length = L.length
      · simp only [if_pos g]
        omega
      · simp only [if_neg g] at h
        cases h
  · rw [if_neg c] at h
    cases h
def shortP (s : ByteArray) (r : Int × Int × Bool) : ByteArray × Int × Bool :=
  if r.2.2 = true ∧ r.1 ≤ 20000 ∧ r.1 ≤ s.size - r.2.1 then (s.extract r.2.1.toNat (r.2.1 + r.1).toNat, r.2.1 + r.1, true) else ((⟨#[]⟩ : ByteArray), 0, false)
theorem short_rest (s : ByteArray) (hs : s.size ≤ 140737488351232) (p : Int) :
    (if (readV s p).2.2 = true then (if (readV s p).1 > 20000 then (some ((⟨#[]⟩ : ByteArray), 0, false)) else (if (readV s p).1 > (wrap64 ((s.size : Int) - (readV s p).2.1)) then (some ((⟨#[]⟩ : ByteArray), 0, false)) else (if 0 ≤ (readV s p).2.1 then (if (readV s p).2.1 ≤ (wrap64 ((readV s p).2.1 + (readV s p).1)) then (if (wrap64 ((readV s p).2.1 + (readV s p).1)) ≤ (s.size : Int) then (some (s.extract ((readV s p).2.1 : Int).toNat ((wrap64 ((readV s p).2.1 + (readV s p).1)) : Int).toNat, wrap64 ((readV s p).2.1 + (readV s p).1), true)) else (none)) else (none)) else (none)))) else (some ((⟨#[]⟩ : ByteArray), 0, false)))
      = some (shortP s (readV s p)) := by
  unfold shortP
  by_cases c : (readV s p).2.2 = true
  · obtain ⟨h0, h1, h2⟩ := readV_place s p c
    rw [if_pos c]
    by_cases c2 : (readV s p).1 > 20000
    · rw [if_pos c2, if_neg (fun h => by omega)]
    · rw [if_neg c2, w64 (x := (s.size : Int) - (readV s p).2.1) (by omega) (by omega)]
      by_cases c3 : (readV s p).1 > (s.size : Int) - (readV s p).2.1
      · rw [if_pos c3, if_neg (fun h => by omega)]
      · rw [if_neg c3, if_pos h1, w64 (x := (readV s p).2.1 + (readV s p).1) (by omega) (by omega), if_pos (by omega), if_pos (by omega), if_pos ⟨c, by omega, by omega⟩]
  · rw [if_neg c, if_neg (fun h => c h.1)]
theorem FnExactReadShort : laws_FnExactReadShort.Pure := by
  intro s p hs _
  refine Ev.rounds ?_
  unfold laws_FnExactReadShort.f
  by_cases c : (s.size : Int) > 1048576
  · exact ev_pos c (ev_ret _)
  · refine ev_neg c (Ev.bind (a := shortP s (readV s p)) ?_ (Ev.bind (a := shortP s (readV s p)) ?_ ?_))
    · unfold spec_ReadShort.f
      exact Ev.bind (spec_ReadVar_ev s hs p) (ev_id fun _ => short_rest s hs p)
    · unfold impl_ReadShort.f
      exact Ev.bind (impl_ReadVar_ev s hs p) (ev_id fun _ => short_rest s hs p)
    · exact ev_pos rfl (ev_pos rfl (ev_neg (by simp) (ev_ret _)))

end Go.Proofs.Ytfgobagibkbocaa.Pure
