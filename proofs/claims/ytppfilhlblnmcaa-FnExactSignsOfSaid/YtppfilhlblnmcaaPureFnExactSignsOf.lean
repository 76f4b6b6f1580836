/- The program's SignsOf answers as the reference's at every text, and its answer owns its memory. No condition beyond the law's own bound. -/
import Derived.Test.YtppfilhlblnmcaaOpnFnExactSignsOf
set_option linter.unusedVariables false
set_option linter.unusedSimpArgs false
namespace Go.Proofs.Ytppfilhlblnmcaa.Pure
open Go.RowKit Go.Proofs.Ytppfilhlblnmcaa.PFnExactSignsOf Go.Proofs.YtppfilhlblnmcaaW.PrintWords Go.Proofs.YtppfilhlblnmcaaW.PrintLast Go.Proofs.YtppfilhlblnmcaaW.PrintMore Go.Proofs.Ytppfilhlblnmcaa.Opn Go.Proofs.Ytppfilhlblnmcaa.OpnFnExactSignsOf

theorem w64 {x : Int} (h0 : -9223372036854775808 ≤ x) (h1 : x ≤ 9223372036854775807) : wrap64 x = x := by
  unfold wrap64
  omega
theorem wf_i64 {x : Int} (h : (Lit.int .i64 x).wf = true) : -9223372036854775808 ≤ x ∧ x ≤ 9223372036854775807 := by
  simp [Lit.wf, IntKind.min, IntKind.max, IntKind.signed, IntKind.bits] at h
  omega

instance lawBA : LawfulBEq ByteArray where
  eq_of_beq {a b} h := by
    cases a
    cases b
    congr 1
    exact eq_of_beq (α := Array UInt8) h
  rfl {a} := by
    cases a
    exact BEq.rfl (α := Array UInt8)

/-! Rounds -/
theorem ev_step {α : Type} {g : Nat → Option α} {r : α} (h : Ev (fun k => g (k + 1)) r) : Ev g r := Ev.step (fun _ => rfl) h
theorem ev_ret {α : Type} (r : α) : Ev (fun _ => some r) r := ⟨0, fun _ _ => rfl⟩
theorem ev_pos {α : Type} {c : Prop} [Decidable c] {g f : Nat → Option α} {r : α} (h : c) (k : Ev g r) : Ev (fun n => if c then g n else f n) r :=
  Ev.congr (fun _ => if_pos h) k
theorem ev_neg {α : Type} {c : Prop} [Decidable c] {g f : Nat → Option α} {r : α} (h : ¬ c) (k : Ev f r) : Ev (fun n => if c then g n else f n) r :=
  Ev.congr (fun _ => if_neg h) k
theorem ev_bindc {α β : Type} {x : Option α} {f : Nat → α → Option β} {a : α} {r : β} (h : x = some a) (k : Ev (fun n => f n a) r) : Ev (fun n => x.bind (f n)) r := by
  subst h
  exact k
theorem ev_rpos {α : Type} {c : Prop} [Decidable c] {g : Nat → Option α} {a b : α} (h : c) (k : Ev g a) : Ev g (if c then a else b) := by
  rw [if_pos h]
  exact k
theorem ev_rneg {α : Type} {c : Prop} [Decidable c] {g : Nat → Option α} {a b : α} (h : ¬ c) (k : Ev g b) : Ev g (if c then a else b) := by
  rw [if_neg h]
  exact k
theorem ev_eq {α : Type} {g : Nat → Option α} {r r' : α} (h : r = r') (k : Ev g r) : Ev g r' := h ▸ k

/-! Lists and texts as lists of numbers -/
def bs (s : ByteArray) : List Int := s.data.toList.map fun c => (c.toNat : Int)
theorem bs_length (s : ByteArray) : (bs s).length = s.size := by
  unfold bs
  rw [List.length_map, Array.length_toList]
  rfl
theorem bs_range {s : ByteArray} {x : Int} (h : x ∈ bs s) : 0 ≤ x ∧ x < 256 := by
  unfold bs at h
  obtain ⟨c, _, rfl⟩ := List.mem_map.1 h
  have := c.toNat_lt
  omega
theorem bs_inj {a b : ByteArray} (h : bs a = bs b) : a = b := by
  have h2 : a.data.toList = b.data.toList := by
    have h3 := congrArg (List.map fun n : Int => UInt8.ofNat n.toNat) h
    unfold bs at h3
    rw [List.map_map, List.map_map] at h3
    have e : ∀ l : List UInt8, l.map ((fun n : Int => UInt8.ofNat n.toNat) ∘ fun c => (c.toNat : Int)) = l := by
      intro l
      induction l with
      | nil => rfl
      | cons c l ih =>
        rw [List.map_cons, ih]
        simp
    rwa [e, e] at h3
  cases a
  cases b
  congr 1
  exact Array.toList_inj.1 h2
theorem toList_eq_iff {a b : ByteArray} : a.toList = b.toList ↔ a = b := by
  constructor
  · intro h
    rw [ByteArray.toList_eq, ByteArray.toList_eq] at h
    cases a
    cases b
    congr 1
    exact Array.toList_inj.1 h
  · rintro rfl
    rfl
theorem drop_rd {α : Type} {d : α} {l : List α} {i : Int} (h0 : 0 ≤ i) (h1 : i < l.length) : l.drop i.toNat = rdOf d l i :: l.drop (i + 1).toNat := by
  have h2 : i.toNat < l.length := by omega
  rw [List.drop_eq_getElem_cons h2]
  unfold rdOf
  rw [List.getD_eq_getElem?_getD, List.getElem?_eq_getElem h2, show (i + 1).toNat = i.toNat + 1 by omega]
  rfl
theorem drop_end {α : Type} {l : List α} {i : Int} (h0 : 0 ≤ i) (h1 : ¬ i < l.length) : l.drop i.toNat = [] := List.drop_eq_nil_of_le (by omega)
theorem bs_rd {s : ByteArray} {i : Int} (h0 : 0 ≤ i) (h1 : i < s.size) : rdOf 0 (bs s) i = bt s i := by
  have h2 : i.toNat < s.size := by omega
  have h3 : i.toNat < s.data.toList.length := by
    rw [Array.length_toList]
    exact h2
  unfold rdOf bs bt
  rw [List.getD_eq_getElem?_getD, List.getElem?_map, List.getElem?_eq_getElem h3, dif_pos h2]
  rfl
theorem bs_drop {s : ByteArray} {i : Int} (h0 : 0 ≤ i) (h1 : i < s.size) : (bs s).drop i.toNat = bt s i :: (bs s).drop (i + 1).toNat := by
  rw [drop_rd (d := 0) h0 (by rw [bs_length]; exact h1), bs_rd h0 h1]
theorem bs_end {s : ByteArray} {i : Int} (h0 : 0 ≤ i) (h1 : ¬ i < s.size) : (bs s).drop i.toNat = [] := drop_end h0 (by rw [bs_length]; exact h1)
theorem strOf_bs (s : ByteArray) : strOfNums (bs s) = s := by
  have e : (bs s).map (fun n => UInt8.ofNat n.toNat) = s.data.toList := by
    unfold bs
    rw [List.map_map]
    conv => rhs; rw [← List.map_id s.data.toList]
    exact List.map_congr_left fun c _ => by simp
  unfold strOfNums
  rw [e]
theorem bs_strOf {l : List Int} (h : ∀ x ∈ l, 0 ≤ x ∧ x < 256) : bs (strOfNums l) = l := by
  unfold bs strOfNums
  rw [List.map_map]
  conv => rhs; rw [← List.map_id l]
  refine List.map_congr_left fun x hx => ?_
  obtain ⟨h0, h1⟩ := h x hx
  simp only [Function.comp_apply, UInt8.toNat_ofNat', id_eq]
  omega
theorem bs_append (a b : ByteArray) : bs (a ++ b) = bs a ++ bs b := by simp [bs]
theorem strOf_append (a b : List Int) : strOfNums (a ++ b) = strOfNums a ++ strOfNums b := by
  cases h : strOfNums a ++ strOfNums b
  rename_i d
  have := congrArg ByteArray.data h
  simp only [ByteArray.data_append] at this
  unfold strOfNums at this ⊢
  simp only [← this]
  simp
theorem ev_id {α : Type} {g : Nat → Option α} {r : α} (h : ∀ k, g k = some r) : Ev g r := ⟨0, fun k _ => h k⟩

theorem set_take {α : Type} (l : List α) (i : Nat) (x : α) (h : i < l.length) : (l.set i x).take (i + 1) = l.take i ++ [x] := by
  apply List.ext_getElem?
  intro j
  rcases Nat.lt_trichotomy j i with hj | hj | hj
  · rw [List.getElem?_take_of_lt (by omega), List.getElem?_set_ne (by omega), List.getElem?_append_left (by simp; omega), List.getElem?_take_of_lt hj]
  · subst hj
    rw [List.getElem?_take_of_lt (by omega), List.getElem?_set_self h, List.getElem?_append_right (by simp; omega)]
    simp [Nat.min_eq_left (Nat.le_of_lt h)]
  · rw [List.getElem?_eq_none (by simp; omega), List.getElem?_eq_none (by simp; omega)]
theorem take_rd {α : Type} (d : α) {l : List α} {i : Int} (h0 : 0 ≤ i) (h1 : i < l.length) : l.take (i + 1).toNat = l.take i.toNat ++ [rdOf d l i] := by
  have h2 : i.toNat < l.length := by omega
  rw [show (i + 1).toNat = i.toNat + 1 by omega, List.take_succ_eq_append_getElem h2]
  unfold rdOf
  rw [List.getD_eq_getElem?_getD, List.getElem?_eq_getElem h2]
  rfl
theorem rd_rdOf (l : List Int) (i : Int) : rd l i = rdOf 0 l i := rfl
theorem rdOf_mem {α : Type} {d : α} {l : List α} {i : Int} (h0 : 0 ≤ i) (h1 : i < l.length) : rdOf d l i ∈ l := by
  unfold rdOf
  rw [List.getD_eq_getElem?_getD, List.getElem?_eq_getElem (show i.toNat < l.length by omega)]
  exact List.getElem_mem _
/-- A copy made element by element, one round. -/
theorem copy_step {α : Type} (d : α) {src acc : List α} {i : Int} (h0 : 0 ≤ i) (h1 : i < src.length) (hl : acc.length = src.length) (ht : acc.take i.toNat = src.take i.toNat) :
    (acc.set i.toNat (rdOf d src i)).length = src.length ∧ (acc.set i.toNat (rdOf d src i)).take (i + 1).toNat = src.take (i + 1).toNat := by
  refine ⟨by simpa using hl, ?_⟩
  rw [take_rd d h0 h1, ← ht, show (i + 1).toNat = i.toNat + 1 by omega, set_take _ _ _ (by omega)]
theorem copy_end {α : Type} {src acc : List α} {i : Int} (h0 : 0 ≤ i) (h1 : ¬ i < src.length) (hl : acc.length = src.length) (ht : acc.take i.toNat = src.take i.toNat) : acc = src := by
  rw [List.take_of_length_le (by omega), List.take_of_length_le (by omega)] at ht
  exact ht

/-- How many of the first elements pass a test. -/
def runL (p : Int → Bool) : List Int → Nat
  | [] => 0
  | c :: l => if p c = true then runL p l + 1 else 0
theorem runL_le (p : Int → Bool) : ∀ l, runL p l ≤ l.length
  | [] => Nat.le_refl _
  | c :: l => by
    have := runL_le p l
    unfold runL
    split
    · simp
      omega
    · omega
theorem runL_all (p : Int → Bool) : ∀ l, runL p l = l.length ↔ l.all p = true
  | [] => by simp [runL]
  | c :: l => by
    have h := runL_all p l
    unfold runL
    by_cases g : p c = true
    · rw [if_pos g]
      simp [g, h]
    · rw [if_neg g]
      simp [g]

def keyList : List ByteArray := [(⟨#[109, 111, 110, 105, 116, 111, 114]⟩ : ByteArray), (⟨#[118, 97, 114]⟩ : ByteArray), (⟨#[113, 117, 101, 117, 101]⟩ : ByteArray), (⟨#[101, 110, 116, 114, 121]⟩ : ByteArray), (⟨#[112, 114, 111, 99, 101, 115, 115]⟩ : ByteArray), (⟨#[117, 115, 101, 115]⟩ : ByteArray), (⟨#[98, 101, 103, 105, 110]⟩ : ByteArray), (⟨#[101, 110, 100]⟩ : ByteArray), (⟨#[105, 102]⟩ : ByteArray), (⟨#[116, 104, 101, 110]⟩ : ByteArray), (⟨#[101, 108, 115, 101]⟩ : ByteArray), (⟨#[119, 104, 105, 108, 101]⟩ : ByteArray), (⟨#[100, 111]⟩ : ByteArray), (⟨#[99, 97, 108, 108]⟩ : ByteArray), (⟨#[116, 111]⟩ : ByteArray), (⟨#[112, 114, 105, 110, 116]⟩ : ByteArray), (⟨#[114, 101, 97, 100]⟩ : ByteArray), (⟨#[100, 101, 108, 97, 121]⟩ : ByteArray), (⟨#[99, 111, 110, 116, 105, 110, 117, 101]⟩ : ByteArray), (⟨#[115, 107, 105, 112]⟩ : ByteArray), (⟨#[97, 110, 100]⟩ : ByteArray), (⟨#[111, 114]⟩ : ByteArray), (⟨#[110, 111, 116]⟩ : ByteArray)]
def isKey (s : ByteArray) : Bool := decide (s ∈ keyList)

def isLet (c : Int) : Bool := decide (97 ≤ c ∧ c ≤ 122)
def nameP (s : ByteArray) : Bool := decide (1 ≤ s.size ∧ s.size ≤ 8) && (bs s).all isLet && !isKey s

theorem impl_letter_some (c : Int) : impl_letter.f c = some (isLet c) := by
  unfold impl_letter.f isLet
  by_cases g : c ≥ 97
  · rw [if_pos g]
    simp [g]
  · rw [if_neg g]
    have g' : ¬ 97 ≤ c := g
    simp [g']
theorem run_letter_l0 (s : ByteArray) (hs : s.size ≤ 140737488351232) (n : Nat) : ∀ i : Int, 0 ≤ i → i ≤ s.size → (s.size : Int) - i = n → Ev (fun k => impl_run_impl_letter.l0 k s i) (i + runL isLet ((bs s).drop i.toNat)) := by
  induction n with
  | zero =>
    intro i h0 h1 hn
    refine ev_step ?_
    simp only [impl_run_impl_letter.l0]
    rw [bs_end h0 (by omega)]
    exact ev_neg (by omega) (ev_eq (by simp [runL]) (ev_ret _))
  | succ n ih =>
    intro i h0 h1 hn
    refine ev_step ?_
    simp only [impl_run_impl_letter.l0]
    rw [bs_drop h0 (by omega)]
    refine ev_pos (by omega) (ev_pos h0 (ev_bindc (impl_letter_some _) ?_))
    unfold runL
    by_cases g : isLet (bt s i) = true
    · rw [if_pos g, w64 (x := i + 1) (by omega) (by omega)]
      exact ev_pos g (ev_eq (by omega) (ih (i + 1) (by omega) (by omega) (by omega)))
    · rw [if_neg g]
      exact ev_neg g (ev_eq (by simp) (ev_ret _))
theorem run_letter_ev (s : ByteArray) (hs : s.size ≤ 140737488351232) (i : Int) (h0 : 0 ≤ i) (h1 : i ≤ s.size) : Ev (fun k => impl_run_impl_letter.f k s i) (i + runL isLet ((bs s).drop i.toNat)) :=
  run_letter_l0 s hs _ i h0 h1 (Int.toNat_of_nonneg (by omega)).symm

theorem bs_extract (s : ByteArray) (a b : Nat) : bs (s.extract a b) = ((bs s).drop a).take (b - a) := by
  unfold bs
  rw [ByteArray.data_extract, Array.toList_extract, ← List.map_drop, ← List.map_take]

def isFig (c : Int) : Bool := decide (48 ≤ c ∧ c ≤ 57)
def notNl (c : Int) : Bool := c != 10
theorem impl_figure_some (c : Int) : impl_figure.f c = some (isFig c) := by
  unfold impl_figure.f isFig
  by_cases g : c ≥ 48
  · rw [if_pos g]
    simp [g]
  · rw [if_neg g]
    have g' : ¬ 48 ≤ c := g
    simp [g']
theorem impl_nl_some (c : Int) : impl_SignsOf_1.f c = some (notNl c) := rfl
theorem run_figure_l0 (s : ByteArray) (hs : s.size ≤ 140737488351232) (n : Nat) : ∀ i : Int, 0 ≤ i → i ≤ s.size → (s.size : Int) - i = n → Ev (fun k => impl_run_impl_figure.l0 k s i) (i + runL isFig ((bs s).drop i.toNat)) := by
  induction n with
  | zero =>
    intro i h0 h1 hn
    refine ev_step ?_
    simp only [impl_run_impl_figure.l0]
    rw [bs_end h0 (by omega)]
    exact ev_neg (by omega) (ev_eq (by simp [runL]) (ev_ret _))
  | succ n ih =>
    intro i h0 h1 hn
    refine ev_step ?_
    simp only [impl_run_impl_figure.l0]
    rw [bs_drop h0 (by omega)]
    refine ev_pos (by omega) (ev_pos h0 (ev_bindc (impl_figure_some _) ?_))
    unfold runL
    by_cases g : isFig (bt s i) = true
    · rw [if_pos g, w64 (x := i + 1) (by omega) (by omega)]
      exact ev_pos g (ev_eq (by omega) (ih (i + 1) (by omega) (by omega) (by omega)))
    · rw [if_neg g]
      exact ev_neg g (ev_eq (by simp) (ev_ret _))
theorem run_nl_l0 (s : ByteArray) (hs : s.size ≤ 140737488351232) (n : Nat) : ∀ i : Int, 0 ≤ i → i ≤ s.size → (s.size : Int) - i = n → Ev (fun k => impl_run_impl_SignsOf_1.l0 k s i) (i + runL notNl ((bs s).drop i.toNat)) := by
  induction n with
  | zero =>
    intro i h0 h1 hn
    refine ev_step ?_
    simp only [impl_run_impl_SignsOf_1.l0]
    rw [bs_end h0 (by omega)]
    exact ev_neg (by omega) (ev_eq (by simp [runL]) (ev_ret _))
  | succ n ih =>
    intro i h0 h1 hn
    refine ev_step ?_
    simp only [impl_run_impl_SignsOf_1.l0]
    rw [bs_drop h0 (by omega)]
    refine ev_pos (by omega) (ev_pos h0 (ev_bindc (impl_nl_some _) ?_))
    unfold runL
    by_cases g : notNl (bt s i) = true
    · rw [if_pos g, w64 (x := i + 1) (by omega) (by omega)]
      exact ev_pos g (ev_eq (by omega) (ih (i + 1) (by omega) (by omega) (by omega)))
    · rw [if_neg g]
      exact ev_neg g (ev_eq (by simp) (ev_ret _))
/-- Where a run of such bytes ends. -/
def runE (p : Int → Bool) (s : ByteArray) (i : Int) : Int := i + runL p ((bs s).drop i.toNat)
theorem runE_range (p : Int → Bool) (s : ByteArray) (i : Int) (h0 : 0 ≤ i) (h1 : i ≤ s.size) : i ≤ runE p s i ∧ runE p s i ≤ s.size := by
  unfold runE
  have h := runL_le p ((bs s).drop i.toNat)
  rw [List.length_drop, bs_length] at h
  omega
theorem runE_end (p : Int → Bool) (s : ByteArray) (i : Int) (h0 : 0 ≤ i) (h1 : ¬ i < s.size) : runE p s i = i := by
  unfold runE
  rw [bs_end h0 h1]
  simp [runL]
theorem runL_pos (p : Int → Bool) (c : Int) (l : List Int) (h : p c = true) : runL p (c :: l) = runL p l + 1 := by
  simp [runL, h]
theorem runE_step (p : Int → Bool) (s : ByteArray) (i : Int) (h0 : 0 ≤ i) (h1 : i < s.size) (h : p (bt s i) = true) : runE p s i = runE p s (i + 1) := by
  unfold runE
  rw [bs_drop h0 h1, runL_pos p _ _ h]
  omega
theorem runE_stop (p : Int → Bool) (s : ByteArray) (i : Int) (h0 : 0 ≤ i) (h1 : i < s.size) (h : ¬ p (bt s i) = true) : runE p s i = i := by
  unfold runE
  rw [bs_drop h0 h1]
  unfold runL
  rw [if_neg h]
  simp
theorem runL_take (p : Int → Bool) : ∀ (l : List Int), ∀ c ∈ l.take (runL p l), p c = true
  | [], c, h => by simp at h
  | x :: l, c, h => by
    unfold runL at h
    by_cases g : p x = true
    · rw [if_pos g, List.take_succ_cons] at h
      rcases List.mem_cons.1 h with rfl | h
      · exact g
      · exact runL_take p l c h
    · rw [if_neg g, List.take_zero] at h
      cases h
theorem runW_l0 (s : ByteArray) (hs : s.size ≤ 1048576) (lo hi b : Int) (l : List S50) (hb : 0 ≤ b) (n : Nat) : ∀ i : Int, b ≤ i → i ≤ s.size → (s.size : Int) - i = n →
    Ev (fun k => spec_l04Scan_runW.l0 k lo hi b s i l) (s.extract b.toNat (runE (fun c => decide (lo ≤ c ∧ c ≤ hi)) s i).toNat, s, runE (fun c => decide (lo ≤ c ∧ c ≤ hi)) s i, l) := by
  induction n with
  | zero =>
    intro i h0 h1 hn
    rw [runE_end _ s i (by omega) (by omega)]
    refine ev_step ?_
    simp only [spec_l04Scan_runW.l0]
    exact ev_neg (by omega) (ev_pos hb (ev_pos h0 (ev_pos h1 (ev_ret _))))
  | succ n ih =>
    intro i h0 h1 hn
    refine ev_step ?_
    simp only [spec_l04Scan_runW.l0]
    refine ev_pos (by omega) (ev_pos (by omega) ?_)
    by_cases c1 : bt s i ≥ lo
    · refine ev_pos c1 ?_
      by_cases c2 : bt s i ≤ hi
      · rw [runE_step _ s i (by omega) (by omega) (by simp [c2]; omega), w64 (x := i + 1) (by omega) (by omega)]
        exact ev_pos c2 (ih (i + 1) (by omega) (by omega) (by omega))
      · rw [runE_stop _ s i (by omega) (by omega) (by simp; omega)]
        exact ev_neg c2 (ev_pos hb (ev_pos h0 (ev_pos h1 (ev_ret _))))
    · rw [runE_stop _ s i (by omega) (by omega) (by simp; omega)]
      exact ev_neg c1 (ev_pos hb (ev_pos h0 (ev_pos h1 (ev_ret _))))
theorem runW_let (s : ByteArray) (hs : s.size ≤ 1048576) (l : List S50) (i : Int) (h0 : 0 ≤ i) (h1 : i ≤ s.size) : Ev (fun k => spec_l04Scan_runW.f k s i l 97 122) (s.extract i.toNat (runE isLet s i).toNat, s, runE isLet s i, l) := by
  unfold spec_l04Scan_runW.f
  exact runW_l0 s hs 97 122 i l h0 _ i (Int.le_refl _) h1 (Int.toNat_of_nonneg (by omega)).symm
theorem runW_fig (s : ByteArray) (hs : s.size ≤ 1048576) (l : List S50) (i : Int) (h0 : 0 ≤ i) (h1 : i ≤ s.size) : Ev (fun k => spec_l04Scan_runW.f k s i l 48 57) (s.extract i.toNat (runE isFig s i).toNat, s, runE isFig s i, l) := by
  unfold spec_l04Scan_runW.f
  exact runW_l0 s hs 48 57 i l h0 _ i (Int.le_refl _) h1 (Int.toNat_of_nonneg (by omega)).symm

theorem eqSignS_l0 (l : List S50) (hl : l.length ≤ 9223372036854775807) (n : Nat) : ∀ i : Int, 0 ≤ i → (l.length : Int) - i = n → Ev (fun k => laws_eqSignS.l0 k l l i) true := by
  induction n with
  | zero =>
    intro i h0 hn
    refine ev_step ?_
    simp only [laws_eqSignS.l0]
    exact ev_neg (by omega) (ev_ret _)
  | succ n ih =>
    intro i h0 hn
    refine ev_step ?_
    simp only [laws_eqSignS.l0]
    have he : ∀ x : S50, laws_eqSign.f x.f0 x.f1 x.f2 x.f3 x.f0 x.f1 x.f2 x.f3 = some true := by
      intro x
      unfold laws_eqSign.f
      rw [if_pos rfl, if_pos rfl, if_pos rfl, if_pos rfl]
    rw [w64 (x := i + 1) (by omega) (by omega)]
    exact ev_pos (by omega) (ev_pos h0 (ev_pos (by omega) (ev_bindc (he _) (ev_pos rfl (ih (i + 1) (by omega) (by omega))))))
theorem eqSignS_ev (l : List S50) (hl : l.length ≤ 9223372036854775807) : Ev (fun k => laws_eqSignS.f k l l) true := by
  unfold laws_eqSignS.f
  exact ev_pos rfl (eqSignS_l0 l hl l.length 0 (by omega) (by omega))

theorem ev_ite {α : Type} {c : Prop} [Decidable c] {g f : Nat → Option α} {r : α} (h : c → Ev g r) (h' : ¬ c → Ev f r) : Ev (fun n => if c then g n else f n) r :=
  if hc : c then ev_pos hc (h hc) else ev_neg hc (h' hc)

def numW : List Int → Int → Int
  | [], n => n
  | c :: l, n => numW l (wrap64 (wrap64 (10 * n) + (c - 48)))
theorem wrapw (x b : Int) : wrap64 (wrap64 (x + b) - 48) = wrap64 (x + (b - 48)) := by
  unfold wrap64
  omega
def tailP (s : ByteArray) (e : Int) (l : List S50) (x : S50) : Bool × ByteArray × Int × List S50 := if (l.length : Int) ≥ 500 then (false, s, e, l) else (true, s, e, l ++ [x])
theorem ev_tail (s : ByteArray) (e : Int) (l : List S50) (a : Int) (b : ByteArray) (c d : Int) (hl : l.length ≤ 500) : Ev (fun _ => if (l.length : Int) ≥ 500 then some (false, s, e, l) else (if l.length < 3518437208883 then some (true, s, e, l ++ [(⟨a, b, c, d⟩ : S50)]) else none)) (tailP s e l ⟨a, b, c, d⟩) := by
  unfold tailP
  refine ev_ite (fun h => ?_) (fun h => ?_)
  · rw [if_pos h]
    exact ev_ret _
  · rw [if_neg h]
    exact ev_pos (by omega) (ev_ret _)
theorem one_l0 (s : ByteArray) (e : Int) (l : List S50) (hl : l.length ≤ 500) (kd : Int) (t : ByteArray) (a0 : Int) (ht : t.size ≤ 1048576) (n : Nat) : ∀ (i m : Int), 0 ≤ i → (t.size : Int) - i = n → Ev (fun k => spec_l04Scan_one.l0 k i s e l kd t m a0) (tailP s e l ⟨kd, t, numW ((bs t).drop i.toNat) m, a0⟩) := by
  induction n with
  | zero =>
    intro i m h0 hn
    refine ev_step ?_
    simp only [spec_l04Scan_one.l0]
    rw [bs_end h0 (by omega)]
    exact ev_neg (by omega) (ev_tail _ _ _ _ _ _ _ hl)
  | succ n ih =>
    intro i m h0 hn
    refine ev_step ?_
    simp only [spec_l04Scan_one.l0]
    rw [bs_drop h0 (by omega), wrapw, w64 (x := i + 1) (by omega) (by omega)]
    exact ev_pos (by omega) (ev_pos h0 (ih (i + 1) _ (by omega) (by omega)))
theorem signAt_l0 (s : ByteArray) (x1 x8 : Int) (h1 : 0 ≤ x1) (h2 : x1 ≤ x8) (h3 : x8 ≤ s.size) (l : List Int) (hl : l.length ≤ 1048576) (hd : ∀ c ∈ l, 48 ≤ c ∧ c ≤ 57) (kd : Int) (t : ByteArray) (a0 : Int) (n : Nat) : ∀ (i m : Int), 0 ≤ i → (l.length : Int) - i = n →
    Ev (fun k => impl_signAt.l0 k s x1 x8 l (l.length : Int) i kd t m a0) (kd, s.extract x1.toNat x8.toNat, numW (l.drop i.toNat) m, a0, x8, true) := by
  induction n with
  | zero =>
    intro i m h0 hn
    refine ev_step ?_
    simp only [impl_signAt.l0]
    rw [drop_end h0 (by omega)]
    exact ev_neg (by omega) (ev_pos h1 (ev_pos h2 (ev_pos h3 (ev_ret _))))
  | succ n ih =>
    intro i m h0 hn
    refine ev_step ?_
    simp only [impl_signAt.l0]
    have hm := hd (rdOf 0 l i) (rdOf_mem h0 (by omega))
    have e : (rd l i - 48) % 256 = rdOf 0 l i - 48 := by
      show (rdOf 0 l i - 48) % 256 = _
      omega
    rw [drop_rd (d := (0 : Int)) h0 (by omega), e, w64 (x := i + 1) (by omega) (by omega)]
    exact ev_pos (by omega) (ev_pos h0 (ev_pos (by omega) (ih (i + 1) _ (by omega) (by omega))))
def marksL : List Int := [59, 44, 46, 40, 41, 43, 45, 42, 47, 37, 60, 61]
theorem mark_l0 (s : ByteArray) (hs : s.size ≤ 1048576) (c : Int) (n : Nat) : ∀ i : Int, 0 ≤ i → (s.size : Int) - i = n → Ev (fun k => spec_l04Mark.l0 k c s i) (decide (c ∈ (bs s).drop i.toNat)) := by
  induction n with
  | zero =>
    intro i h0 hn
    refine ev_step ?_
    simp only [spec_l04Mark.l0]
    rw [bs_end h0 (by omega)]
    exact ev_neg (by omega) (ev_eq (by simp) (ev_ret _))
  | succ n ih =>
    intro i h0 hn
    refine ev_step ?_
    simp only [spec_l04Mark.l0]
    rw [bs_drop h0 (by omega)]
    refine ev_pos (by omega) (ev_pos h0 (ev_ite (fun h => ?_) (fun h => ?_)))
    · exact ev_eq (by simp [h]) (ev_ret _)
    · rw [w64 (x := i + 1) (by omega) (by omega)]
      refine ev_eq ?_ (ih (i + 1) (by omega) (by omega))
      have h' : ¬ c = bt s i := fun q => h q.symm
      simp [h']
theorem mark_ev (c : Int) : Ev (fun k => spec_l04Mark.f k c) (decide (c ∈ marksL)) := by
  unfold spec_l04Mark.f
  exact mark_l0 _ (by decide) c 12 0 (by omega) (by decide)
theorem index_marks {c : Int} (h0 : 0 ≤ c) (h1 : c ≤ 255) : ∃ r, strings_IndexByte.f (⟨#[59, 44, 46, 40, 41, 43, 45, 42, 47, 37, 60, 61]⟩ : ByteArray) c = some r ∧ (r ≥ 0 ↔ c ∈ marksL) := by
  refine ⟨_, rfl, ?_⟩
  have h := (by decide +kernel : ∀ q : Fin 256, decide (Lib.indexByte [59, 44, 46, 40, 41, 43, 45, 42, 47, 37, 60, 61] (q.val : Int).toNat.toUInt8 ≥ 0) = decide ((q.val : Int) ∈ marksL)) ⟨c.toNat, by omega⟩
  simp only [Int.toNat_of_nonneg h0] at h
  exact decide_eq_decide.1 h
/-- The sign at a place, and the place behind it. -/
def signP (s : ByteArray) (i : Int) : Option (S50 × Int) :=
  if isLet (bt s i) = true then (if runE isLet s i - i > 8 then none else some (⟨1, s.extract i.toNat (runE isLet s i).toNat, 0, i⟩, runE isLet s i))
  else if isFig (bt s i) = true then (if runE isFig s i - i > 6 then none else some (⟨2, s.extract i.toNat (runE isFig s i).toNat, numW (bs (s.extract i.toNat (runE isFig s i).toNat)) 0, i⟩, runE isFig s i))
  else if bt s i = 58 ∧ i + 1 < s.size ∧ bt s (i + 1) = 61 then some (⟨3, ⟨#[58, 61]⟩, 0, i⟩, i + 2)
  else if bt s i ∈ marksL then some (⟨3, s.extract i.toNat (i + 1).toNat, 0, i⟩, i + 1)
  else none
def signR (s : ByteArray) (i : Int) (l : List S50) : Bool × List S50 := match signP s i with
  | some (x, _) => if (l.length : Int) ≥ 500 then (false, l) else (true, l ++ [x])
  | none => (false, l)
theorem ext_size (s : ByteArray) (a b : Int) (h0 : 0 ≤ a) (h1 : a ≤ b) (h2 : b ≤ s.size) : ((s.extract a.toNat b.toNat).size : Int) = b - a := by
  have h := bs_extract s a.toNat b.toNat
  have h3 := congrArg List.length h
  rw [bs_length, List.length_take, List.length_drop, bs_length] at h3
  omega
theorem spec_one_m (s : ByteArray) (hs : s.size ≤ 1500) (i : Int) (h0 : 0 ≤ i) (h1 : i < s.size) (l : List S50) (hl : l.length ≤ 500) :
    Ev (fun k => spec_l04Scan_one.m k s i l) (if bt s i ∈ marksL then tailP s (i + 1) l ⟨3, s.extract i.toNat (i + 1).toNat, 0, i⟩ else (false, s, i, l)) := by
  unfold spec_l04Scan_one.m
  rw [w64 (x := i + 1) (by omega) (by omega)]
  refine Ev.bind (mark_ev _) (ev_ite (fun h => ?_) (fun h => ?_))
  · rw [if_pos (of_decide_eq_true h)]
    exact ev_pos (by omega) (ev_pos (by omega) (ev_tail _ _ _ _ _ _ _ hl))
  · rw [if_neg (fun q => h (decide_eq_true q))]
    exact ev_ret _
theorem spec_one_h (s : ByteArray) (hs : s.size ≤ 1500) (i : Int) (h0 : 0 ≤ i) (h1 : i < s.size) (l : List S50) (hl : l.length ≤ 500) :
    Ev (fun k => spec_l04Scan_one.h k s i l) (if bt s i = 58 ∧ i + 1 < s.size ∧ bt s (i + 1) = 61 then tailP s (i + 2) l ⟨3, ⟨#[58, 61]⟩, 0, i⟩ else (if bt s i ∈ marksL then tailP s (i + 1) l ⟨3, s.extract i.toNat (i + 1).toNat, 0, i⟩ else (false, s, i, l))) := by
  have hm := spec_one_m s hs i h0 h1 l hl
  unfold spec_l04Scan_one.h
  rw [w64 (x := i + 1) (by omega) (by omega), w64 (x := i + 2) (by omega) (by omega)]
  by_cases c1 : bt s i = 58
  · refine ev_pos c1 ?_
    by_cases c2 : i + 1 < (s.size : Int)
    · refine ev_pos c2 (ev_pos (by omega) ?_)
      by_cases c3 : bt s (i + 1) = 61
      · exact ev_pos c3 (ev_eq (if_pos ⟨c1, c2, c3⟩).symm (ev_tail _ _ _ _ _ _ _ hl))
      · exact ev_neg c3 (ev_eq (if_neg (fun h : bt s i = 58 ∧ i + 1 < (s.size : Int) ∧ bt s (i + 1) = 61 => c3 h.2.2)).symm hm)
    · exact ev_neg c2 (ev_eq (if_neg (fun h : bt s i = 58 ∧ i + 1 < (s.size : Int) ∧ bt s (i + 1) = 61 => c2 h.2.1)).symm hm)
  · exact ev_neg c1 (ev_eq (if_neg (fun h : bt s i = 58 ∧ i + 1 < (s.size : Int) ∧ bt s (i + 1) = 61 => c1 h.1)).symm hm)
/-- What the reference's scanner does with the sign at its place. -/
theorem spec_one_ev (s : ByteArray) (hs : s.size ≤ 1500) (i : Int) (h0 : 0 ≤ i) (h1 : i < s.size) (l : List S50) (hl : l.length ≤ 500) :
    ∃ e, Ev (fun k => spec_l04Scan_one.f k s i l) ((signR s i l).1, s, e, (signR s i l).2) ∧ ((signR s i l).1 = true → ∃ x, signP s i = some (x, e) ∧ (signR s i l).2 = l ++ [x]) := by
  have tl : ∀ (e : Int) (x : S50), signP s i = some (x, e) → (tailP s e l x = ((signR s i l).1, s, e, (signR s i l).2)) ∧ ((signR s i l).1 = true → ∃ x, signP s i = some (x, e) ∧ (signR s i l).2 = l ++ [x]) := by
    intro e x hx
    unfold signR tailP
    rw [hx]
    by_cases c : (l.length : Int) ≥ 500
    · simp [c]
    · simp [c]
  have no : signP s i = none → signR s i l = (false, l) := by
    intro hx
    unfold signR
    rw [hx]
  have rest : ¬ isLet (bt s i) = true → ¬ isFig (bt s i) = true → ∃ e, Ev (fun k => spec_l04Scan_one.h k s i l) ((signR s i l).1, s, e, (signR s i l).2) ∧ ((signR s i l).1 = true → ∃ x, signP s i = some (x, e) ∧ (signR s i l).2 = l ++ [x]) := by
    intro g1 g2
    have hh := spec_one_h s hs i h0 h1 l hl
    by_cases c1 : bt s i = 58 ∧ i + 1 < s.size ∧ bt s (i + 1) = 61
    · have hx : signP s i = some (⟨3, ⟨#[58, 61]⟩, 0, i⟩, i + 2) := by
        unfold signP
        rw [if_neg g1, if_neg g2, if_pos c1]
      rw [if_pos c1, (tl _ _ hx).1] at hh
      exact ⟨_, hh, (tl _ _ hx).2⟩
    · rw [if_neg c1] at hh
      by_cases c2 : bt s i ∈ marksL
      · have hx : signP s i = some (⟨3, s.extract i.toNat (i + 1).toNat, 0, i⟩, i + 1) := by
          unfold signP
          rw [if_neg g1, if_neg g2, if_neg c1, if_pos c2]
        rw [if_pos c2, (tl _ _ hx).1] at hh
        exact ⟨_, hh, (tl _ _ hx).2⟩
      · have hx : signP s i = none := by
          unfold signP
          rw [if_neg g1, if_neg g2, if_neg c1, if_neg c2]
        rw [if_neg c2] at hh
        rw [no hx]
        exact ⟨_, hh, fun h => by cases h⟩
  have rest2 : ¬ isLet (bt s i) = true → ∃ e, Ev (fun k => spec_l04Scan_one.g k s i l) ((signR s i l).1, s, e, (signR s i l).2) ∧ ((signR s i l).1 = true → ∃ x, signP s i = some (x, e) ∧ (signR s i l).2 = l ++ [x]) := by
    intro g1
    unfold spec_l04Scan_one.g
    by_cases g2 : isFig (bt s i) = true
    · have gb := of_decide_eq_true g2
      obtain ⟨q1, q2⟩ := runE_range isFig s i h0 (by omega)
      have hsz := ext_size s i (runE isFig s i) h0 q1 q2
      have hr := runW_fig s (by omega) l i h0 (by omega)
      by_cases c : runE isFig s i - i > 6
      · have hx : signP s i = none := by
          unfold signP
          rw [if_neg g1, if_pos g2, if_pos c]
        rw [no hx]
        exact ⟨_, ev_pos gb.1 (ev_pos gb.2 (Ev.bind hr (ev_pos (by dsimp only; omega) (ev_ret _)))), fun h => by cases h⟩
      · have hx : signP s i = some (⟨2, s.extract i.toNat (runE isFig s i).toNat, numW (bs (s.extract i.toNat (runE isFig s i).toNat)) 0, i⟩, runE isFig s i) := by
          unfold signP
          rw [if_neg g1, if_pos g2, if_neg c]
        have h5 := one_l0 s (runE isFig s i) l hl 2 (s.extract i.toNat (runE isFig s i).toNat) i (by omega) (s.extract i.toNat (runE isFig s i).toNat).size 0 0 (by omega) (by omega)
        simp only [Int.toNat_zero, List.drop_zero] at h5
        rw [(tl _ _ hx).1] at h5
        exact ⟨_, ev_pos gb.1 (ev_pos gb.2 (Ev.bind hr (ev_neg (by dsimp only; omega) h5))), (tl _ _ hx).2⟩
    · obtain ⟨e, e1, e2⟩ := rest g1 g2
      refine ⟨e, ?_, e2⟩
      by_cases c1 : bt s i ≥ 48
      · refine ev_pos c1 (ev_neg (fun c2 => g2 (decide_eq_true ⟨c1, c2⟩)) e1)
      · exact ev_neg c1 e1
  unfold spec_l04Scan_one.f
  by_cases g1 : isLet (bt s i) = true
  · have gb := of_decide_eq_true g1
    obtain ⟨q1, q2⟩ := runE_range isLet s i h0 (by omega)
    have hsz := ext_size s i (runE isLet s i) h0 q1 q2
    have hr := runW_let s (by omega) l i h0 (by omega)
    by_cases c : runE isLet s i - i > 8
    · have hx : signP s i = none := by
        unfold signP
        rw [if_pos g1, if_pos c]
      rw [no hx]
      exact ⟨_, ev_pos h0 (ev_pos h1 (ev_pos gb.1 (ev_pos gb.2 (Ev.bind hr (ev_pos (by dsimp only; omega) (ev_ret _)))))), fun h => by cases h⟩
    · have hx : signP s i = some (⟨1, s.extract i.toNat (runE isLet s i).toNat, 0, i⟩, runE isLet s i) := by
        unfold signP
        rw [if_pos g1, if_neg c]
      have h5 := ev_tail s (runE isLet s i) l 1 (s.extract i.toNat (runE isLet s i).toNat) 0 i hl
      rw [(tl _ _ hx).1] at h5
      exact ⟨_, ev_pos h0 (ev_pos h1 (ev_pos gb.1 (ev_pos gb.2 (Ev.bind hr (ev_neg (by dsimp only; omega) h5))))), (tl _ _ hx).2⟩
  · obtain ⟨e, e1, e2⟩ := rest2 g1
    refine ⟨e, ev_pos h0 (ev_pos h1 ?_), e2⟩
    by_cases c1 : bt s i ≥ 97
    · exact ev_pos c1 (ev_neg (fun c2 => g1 (decide_eq_true ⟨c1, c2⟩)) e1)
    · exact ev_neg c1 e1

theorem runE_pos (p : Int → Bool) (s : ByteArray) (i : Int) (h0 : 0 ≤ i) (h1 : i < s.size) (h : p (bt s i) = true) : i + 1 ≤ runE p s i := by
  rw [runE_step p s i h0 h1 h]
  exact (runE_range p s (i + 1) (by omega) (by omega)).1
theorem sign_range (s : ByteArray) (i : Int) (h0 : 0 ≤ i) (h1 : i < s.size) (x : S50) (e : Int) (h : signP s i = some (x, e)) : i + 1 ≤ e ∧ e ≤ s.size := by
  unfold signP at h
  split at h
  · rename_i g
    split at h
    · cases h
    · cases h
      exact ⟨runE_pos _ s i h0 h1 g, (runE_range _ s i h0 (by omega)).2⟩
  · split at h
    · rename_i g
      split at h
      · cases h
      · cases h
        exact ⟨runE_pos _ s i h0 h1 g, (runE_range _ s i h0 (by omega)).2⟩
    · split at h
      · rename_i g
        cases h
        omega
      · split at h
        · cases h
          omega
        · cases h
theorem two_bytes (s : ByteArray) (i : Int) (h0 : 0 ≤ i) (h1 : i + 1 < s.size) : bs (s.extract i.toNat (i + 2).toNat) = [bt s i, bt s (i + 1)] := by
  rw [bs_extract, bs_drop h0 (by omega), bs_drop (i := i + 1) (by omega) (by omega), show (i + 2).toNat - i.toNat = 2 by omega]
  rfl
theorem colon_text (s : ByteArray) (i : Int) (h0 : 0 ≤ i) (h1 : i + 1 < s.size) (c1 : bt s i = 58) (c2 : bt s (i + 1) = 61) : s.extract i.toNat (i + 2).toNat = (⟨#[58, 61]⟩ : ByteArray) := by
  refine bs_inj ?_
  rw [two_bytes s i h0 h1, c1, c2]
  rfl
theorem prefix_gen (s P : ByteArray) (h2 : (P.size : Int) = 2) (hP : bs P = [58, 61]) (hs : s.size ≤ 1500) (i : Int) (h0 : 0 ≤ i) (h1 : i < s.size) : strings_HasPrefix.f (s.extract i.toNat s.size) P = some (decide (bt s i = 58 ∧ i + 1 < s.size ∧ bt s (i + 1) = 61)) := by
  have hsz := ext_size s i s.size h0 (by omega) (Int.le_refl _)
  rw [show ((s.size : Int)).toNat = s.size by omega] at hsz
  have hA := bs_extract s i.toNat s.size
  generalize s.extract i.toNat s.size = A at hsz hA
  unfold strings_HasPrefix.f stringslite_HasPrefix.f
  by_cases c : i + 1 < (s.size : Int)
  · have e : bs (A.extract 0 2) = [bt s i, bt s (i + 1)] := by
      rw [bs_extract, hA, List.drop_zero, bs_drop h0 (by omega), bs_drop (i := i + 1) (by omega) (by omega), show 2 - 0 = 2 from rfl, List.take_take, show min 2 (s.size - i.toNat) = 2 by omega]
      rfl
    rw [h2, if_pos (by omega), if_pos (by omega), if_pos (by omega), Option.bind_some]
    show some ((A.extract 0 2).toList == P.toList) = _
    by_cases q : bt s i = 58 ∧ bt s (i + 1) = 61
    · have e2 : A.extract 0 2 = P := by
        refine bs_inj ?_
        rw [e, q.1, q.2, hP]
      rw [e2, decide_eq_true ⟨q.1, c, q.2⟩, beq_self_eq_true]
    · have e2 : ¬ A.extract 0 2 = P := by
        intro h
        have h3 := congrArg bs h
        rw [e, hP] at h3
        injection h3 with h5 h6
        injection h6 with h6 _
        exact q ⟨h5, h6⟩
      rw [decide_eq_false (fun h => q ⟨h.1, h.2.2⟩), beq_false_of_ne (fun h => e2 (toList_eq_iff.1 h))]
  · rw [h2, if_neg (by omega), Option.bind_some, decide_eq_false (fun h => c h.2.1)]
theorem prefix_some (s : ByteArray) (hs : s.size ≤ 1500) (i : Int) (h0 : 0 ≤ i) (h1 : i < s.size) : strings_HasPrefix.f (s.extract i.toNat s.size) (⟨#[58, 61]⟩ : ByteArray) = some (decide (bt s i = 58 ∧ i + 1 < s.size ∧ bt s (i + 1) = 61)) :=
  prefix_gen s _ rfl rfl hs i h0 h1
theorem signAt_ev (s : ByteArray) (hs : s.size ≤ 1500) (i : Int) (h0 : 0 ≤ i) (h1 : i < s.size) :
    ∃ r : Int × ByteArray × Int × Int × Int × Bool, Ev (fun k => impl_signAt.f k s i) r ∧ (∀ x e, signP s i = some (x, e) → r = (x.f0, x.f1, x.f2, x.f3, e, true)) ∧ (signP s i = none → r.2.2.2.2.2 = false) := by
  have hb := bt_range s i
  unfold impl_signAt.f
  by_cases g1 : isLet (bt s i) = true
  · obtain ⟨q1, q2⟩ := runE_range isLet s i h0 (by omega)
    have hr : Ev (fun k => impl_run_impl_letter.f k s i) (runE isLet s i) := run_letter_ev s (by omega) i h0 (by omega)
    have ew : wrap64 (runE isLet s i - i) = runE isLet s i - i := w64 (by omega) (by omega)
    by_cases c : runE isLet s i - i > 8
    · refine ⟨_, ev_pos h0 (ev_pos h1 (ev_bindc (impl_letter_some _) (ev_pos g1 (Ev.bind hr (ev_pos (by rw [ew]; exact c) (ev_ret _)))))), ?_, fun _ => rfl⟩
      intro x e h
      unfold signP at h
      rw [if_pos g1, if_pos c] at h
      cases h
    · refine ⟨_, ev_pos h0 (ev_pos h1 (ev_bindc (impl_letter_some _) (ev_pos g1 (Ev.bind hr (ev_neg (by rw [ew]; exact c) (ev_pos q1 (ev_pos q2 (ev_ret _)))))))), ?_, ?_⟩
      · intro x e h
        unfold signP at h
        rw [if_pos g1, if_neg c] at h
        cases h
        rfl
      · intro h
        unfold signP at h
        rw [if_pos g1, if_neg c] at h
        cases h
  · by_cases g2 : isFig (bt s i) = true
    · obtain ⟨q1, q2⟩ := runE_range isFig s i h0 (by omega)
      have hr : Ev (fun k => impl_run_impl_figure.f k s i) (runE isFig s i) := by
        unfold impl_run_impl_figure.f
        exact run_figure_l0 s (by omega) _ i h0 (by omega) (Int.toNat_of_nonneg (by omega)).symm
      have ew : wrap64 (runE isFig s i - i) = runE isFig s i - i := w64 (by omega) (by omega)
      by_cases c : runE isFig s i - i > 6
      · refine ⟨_, ev_pos h0 (ev_pos h1 (ev_bindc (impl_letter_some _) (ev_neg g1 (ev_bindc (impl_figure_some _) (ev_pos g2 (Ev.bind hr (ev_pos (by rw [ew]; exact c) (ev_ret _)))))))), ?_, fun _ => rfl⟩
        intro x e h
        unfold signP at h
        rw [if_neg g1, if_pos g2, if_pos c] at h
        cases h
      · have hd : ∀ y ∈ bs (s.extract i.toNat (runE isFig s i).toNat), 48 ≤ y ∧ y ≤ 57 := by
          intro y hy
          rw [bs_extract] at hy
          have e1 : (runE isFig s i).toNat - i.toNat = runL isFig ((bs s).drop i.toNat) := by
            unfold runE at q1 ⊢
            omega
          rw [e1] at hy
          exact of_decide_eq_true (runL_take isFig _ y hy)
        have hlen : (bs (s.extract i.toNat (runE isFig s i).toNat)).length ≤ 1048576 := by
          have := ext_size s i (runE isFig s i) h0 q1 q2
          rw [bs_length]
          omega
        have h5 := signAt_l0 s i (runE isFig s i) h0 q1 q2 _ hlen hd 2 (⟨#[]⟩ : ByteArray) i (bs (s.extract i.toNat (runE isFig s i).toNat)).length 0 0 (by omega) (by omega)
        simp only [Int.toNat_zero, List.drop_zero] at h5
        refine ⟨_, ev_pos h0 (ev_pos h1 (ev_bindc (impl_letter_some _) (ev_neg g1 (ev_bindc (impl_figure_some _) (ev_pos g2 (Ev.bind hr (ev_neg (by rw [ew]; exact c) (ev_pos q1 (ev_pos q2 h5))))))))), ?_, ?_⟩
        · intro x e h
          unfold signP at h
          rw [if_neg g1, if_pos g2, if_neg c] at h
          cases h
          rfl
        · intro h
          unfold signP at h
          rw [if_neg g1, if_pos g2, if_neg c] at h
          cases h
    · by_cases c1 : bt s i = 58 ∧ i + 1 < s.size ∧ bt s (i + 1) = 61
      · have e2 : wrap64 (i + 2) = i + 2 := w64 (by omega) (by omega)
        refine ⟨_, ev_pos h0 (ev_pos h1 (ev_bindc (impl_letter_some _) (ev_neg g1 (ev_bindc (impl_figure_some _) (ev_neg g2 (ev_pos (by omega) (ev_bindc (prefix_some s hs i h0 h1) (ev_pos (decide_eq_true c1) (ev_pos (by rw [e2]; omega) (ev_pos (by rw [e2]; omega) (ev_ret _))))))))))), ?_, ?_⟩
        · intro x e h
          unfold signP at h
          rw [if_neg g1, if_neg g2, if_pos c1] at h
          cases h
          rw [e2, colon_text s i h0 c1.2.1 c1.1 c1.2.2]
        · intro h
          unfold signP at h
          rw [if_neg g1, if_neg g2, if_pos c1] at h
          cases h
      · have e1 : wrap64 (i + 1) = i + 1 := w64 (by omega) (by omega)
        obtain ⟨q, hq, hq2⟩ := index_marks hb.1 hb.2
        by_cases c2 : bt s i ∈ marksL
        · refine ⟨_, ev_pos h0 (ev_pos h1 (ev_bindc (impl_letter_some _) (ev_neg g1 (ev_bindc (impl_figure_some _) (ev_neg g2 (ev_pos (by omega) (ev_bindc (prefix_some s hs i h0 h1) (ev_neg (fun h => c1 (of_decide_eq_true h)) (ev_bindc hq (ev_pos (hq2.2 c2) (ev_pos (by rw [e1]; omega) (ev_pos (by rw [e1]; omega) (ev_ret _))))))))))))), ?_, ?_⟩
          · intro x e h
            unfold signP at h
            rw [if_neg g1, if_neg g2, if_neg c1, if_pos c2] at h
            cases h
            rw [e1]
          · intro h
            unfold signP at h
            rw [if_neg g1, if_neg g2, if_neg c1, if_pos c2] at h
            cases h
        · refine ⟨_, ev_pos h0 (ev_pos h1 (ev_bindc (impl_letter_some _) (ev_neg g1 (ev_bindc (impl_figure_some _) (ev_neg g2 (ev_pos (by omega) (ev_bindc (prefix_some s hs i h0 h1) (ev_neg (fun h => c1 (of_decide_eq_true h)) (ev_bindc hq (ev_neg (fun h => c2 (hq2.1 h)) (ev_ret _))))))))))), ?_, fun _ => rfl⟩
          intro x e h
          unfold signP at h
          rw [if_neg g1, if_neg g2, if_neg c1, if_neg c2] at h
          cases h
/-- All signs from a place on. -/
def signsP : Nat → ByteArray → Int → List S50 → List S50 × Int
  | 0, _, _, out => (out, 0)
  | n + 1, s, i, out => if i < s.size then (if bt s i = 32 ∨ bt s i = 10 then signsP n s (i + 1) out else if bt s i = 35 then signsP n s (runE notNl s i) out else match signP s i with
      | some (x, e) => if (out.length : Int) ≥ 500 then ([], i + 1) else signsP n s e (out ++ [x])
      | none => ([], i + 1)) else (out, 0)
theorem signsP_length (s : ByteArray) : ∀ (n : Nat) (i : Int) (out : List S50), out.length ≤ 500 → (signsP n s i out).1.length ≤ 500
  | 0, i, out, h => h
  | n + 1, i, out, h => by
    unfold signsP
    split
    · split
      · exact signsP_length s n _ _ h
      · split
        · exact signsP_length s n _ _ h
        · split
          · split
            · simp
            · refine signsP_length s n _ _ ?_
              rw [List.length_append, List.length_singleton]
              omega
          · simp
    · exact h
theorem spec_l1 (s : ByteArray) (hs : s.size ≤ 1500) (out : List S50) (r : List S50 × Int) (n : Nat) : ∀ i : Int, 0 ≤ i → i ≤ s.size → (s.size : Int) - i = n → Ev (fun k => spec_SignsOf.l0 k s s (runE notNl s i) out) r → Ev (fun k => spec_SignsOf.l1 k s s i out) r := by
  induction n with
  | zero =>
    intro i h0 h1 hn h
    rw [runE_end notNl s i h0 (by omega)] at h
    refine ev_step ?_
    simp only [spec_SignsOf.l1]
    exact ev_neg (by omega) h
  | succ n ih =>
    intro i h0 h1 hn h
    refine ev_step ?_
    simp only [spec_SignsOf.l1]
    refine ev_pos (by omega) (ev_pos h0 ?_)
    by_cases c : bt s i = 10
    · rw [runE_stop notNl s i h0 (by omega) (by rw [c]; decide)] at h
      exact ev_pos c h
    · rw [runE_step notNl s i h0 (by omega) (by unfold notNl; simpa using c)] at h
      rw [w64 (x := i + 1) (by omega) (by omega)]
      exact ev_neg c (ih (i + 1) (by omega) (by omega) (by omega) h)
theorem spec_signs (s : ByteArray) (hs : s.size ≤ 1500) : ∀ (n : Nat) (i : Int) (out : List S50), 0 ≤ i → i ≤ s.size → (s.size : Int) - i ≤ n → out.length ≤ 500 → Ev (fun k => spec_SignsOf.l0 k s s i out) (signsP n s i out)
  | 0, i, out, h0, h1, hn, hl => by
    refine ev_step ?_
    simp only [spec_SignsOf.l0]
    exact ev_neg (by omega) (ev_pos (by omega) (ev_ret _))
  | n + 1, i, out, h0, h1, hn, hl => by
    refine ev_step ?_
    simp only [spec_SignsOf.l0]
    unfold signsP
    by_cases c : i < (s.size : Int)
    · rw [show (if i < (s.size : Int) then (if bt s i = 32 ∨ bt s i = 10 then signsP n s (i + 1) out else if bt s i = 35 then signsP n s (runE notNl s i) out else match signP s i with
        | some (x, e) => if (out.length : Int) ≥ 500 then ([], i + 1) else signsP n s e (out ++ [x])
        | none => ([], i + 1)) else (out, 0)) = _ from if_pos c]
      refine ev_pos c (ev_pos h0 ?_)
      have nx := spec_signs s hs n (i + 1) out (by omega) (by omega) (by omega) hl
      rw [w64 (x := i + 1) (by omega) (by omega)]
      by_cases c1 : bt s i = 32
      · exact ev_pos c1 (ev_eq (if_pos (Or.inl c1)).symm nx)
      · refine ev_neg c1 ?_
        by_cases c2 : bt s i = 10
        · exact ev_pos c2 (ev_eq (if_pos (Or.inr c2)).symm nx)
        · refine ev_neg c2 (ev_eq (if_neg (fun h => h.elim c1 c2)).symm ?_)
          by_cases c3 : bt s i = 35
          · have hn2 : notNl (bt s i) = true := by rw [c3]; decide
            have g := runE_pos notNl s i h0 c hn2
            have g2 := (runE_range notNl s i h0 h1).2
            refine ev_pos c3 (ev_eq (if_pos c3).symm ?_)
            exact spec_l1 s hs out _ _ i h0 h1 (Int.toNat_of_nonneg (by omega)).symm (spec_signs s hs n _ out (by omega) g2 (by omega) hl)
          · refine ev_neg c3 (ev_eq (if_neg c3).symm ?_)
            obtain ⟨e, e1, e2⟩ := spec_one_ev s hs i h0 c out hl
            refine Ev.bind e1 ?_
            cases hx : signP s i with
            | none =>
              have hz : signR s i out = (false, out) := by
                unfold signR
                rw [hx]
              rw [hz]
              exact ev_neg (by simp) (ev_ret _)
            | some p =>
              obtain ⟨x, e'⟩ := p
              obtain ⟨r1, r2⟩ := sign_range s i h0 c x e' hx
              by_cases c4 : (out.length : Int) ≥ 500
              · have hz : signR s i out = (false, out) := by
                  unfold signR
                  rw [hx]
                  exact if_pos c4
                rw [hz]
                exact ev_neg (by simp) (ev_eq (if_pos c4).symm (ev_ret _))
              · have hz : signR s i out = (true, out ++ [x]) := by
                  unfold signR
                  rw [hx]
                  exact if_neg c4
                obtain ⟨x', q1, q2⟩ := e2 (by rw [hz])
                rw [hx] at q1
                injection q1 with q1
                injection q1 with q3 q4
                subst q4
                rw [hz]
                exact ev_pos rfl (ev_eq (if_neg c4).symm (spec_signs s hs n e' (out ++ [x]) (by omega) r2 (by omega) (by rw [List.length_append, List.length_singleton]; omega)))
    · exact ev_neg c (ev_pos (by omega) (ev_eq (if_neg c).symm (ev_ret _)))
theorem impl_signs (s : ByteArray) (hs : s.size ≤ 1500) : ∀ (n : Nat) (i : Int) (out : List S50), 0 ≤ i → i ≤ s.size → (s.size : Int) - i ≤ n → out.length ≤ 500 → Ev (fun k => impl_SignsOf.l0 k s out i) (signsP n s i out)
  | 0, i, out, h0, h1, hn, hl => by
    refine ev_step ?_
    simp only [impl_SignsOf.l0]
    exact ev_neg (by omega) (ev_ret _)
  | n + 1, i, out, h0, h1, hn, hl => by
    refine ev_step ?_
    simp only [impl_SignsOf.l0]
    unfold signsP
    by_cases c : i < (s.size : Int)
    · rw [show (if i < (s.size : Int) then (if bt s i = 32 ∨ bt s i = 10 then signsP n s (i + 1) out else if bt s i = 35 then signsP n s (runE notNl s i) out else match signP s i with
        | some (x, e) => if (out.length : Int) ≥ 500 then ([], i + 1) else signsP n s e (out ++ [x])
        | none => ([], i + 1)) else (out, 0)) = _ from if_pos c]
      have nx := impl_signs s hs n (i + 1) out (by omega) (by omega) (by omega) hl
      have jt : Ev (fun k => impl_SignsOf.j1 k s out i (bt s i) true) (signsP n s (i + 1) out) := by
        refine ev_step ?_
        simp only [impl_SignsOf.j1]
        rw [w64 (x := i + 1) (by omega) (by omega)]
        exact ev_pos (by simp) nx
      refine ev_pos c (ev_pos h0 ?_)
      by_cases c1 : bt s i = 32
      · rw [show (bt s i == 32) = true by simpa using c1]
        exact ev_pos c1 (ev_eq (if_pos (Or.inl c1)).symm jt)
      · refine ev_neg c1 ?_
        by_cases c2 : bt s i = 10
        · rw [show (bt s i == 10) = true by simpa using c2]
          exact ev_eq (if_pos (Or.inr c2)).symm jt
        · rw [show (bt s i == 10) = false by simpa using c2]
          refine ev_eq (if_neg (fun h => h.elim c1 c2)).symm (ev_step ?_)
          simp only [impl_SignsOf.j1]
          refine ev_neg (by simp) ?_
          rw [w64 (x := i + 1) (by omega) (by omega)]
          by_cases c3 : bt s i = 35
          · have hn2 : notNl (bt s i) = true := by rw [c3]; decide
            have g := runE_pos notNl s i h0 c hn2
            have g2 := (runE_range notNl s i h0 h1).2
            have hr : Ev (fun k => impl_run_impl_SignsOf_1.f k s i) (runE notNl s i) := by
              unfold impl_run_impl_SignsOf_1.f
              exact run_nl_l0 s (by omega) _ i h0 h1 (Int.toNat_of_nonneg (by omega)).symm
            exact ev_pos c3 (ev_eq (if_pos c3).symm (Ev.bind hr (impl_signs s hs n _ out (by omega) g2 (by omega) hl)))
          · refine ev_neg c3 (ev_eq (if_neg c3).symm ?_)
            obtain ⟨r, e1, e2, e3⟩ := signAt_ev s hs i h0 c
            refine Ev.bind e1 ?_
            cases hx : signP s i with
            | none =>
              exact ev_neg (by rw [e3 hx]; simp) (ev_ret _)
            | some p =>
              obtain ⟨x, e'⟩ := p
              obtain ⟨r1, r2⟩ := sign_range s i h0 c x e' hx
              rw [e2 x e' hx]
              refine ev_pos rfl ?_
              by_cases c4 : (out.length : Int) = 500
              · exact ev_pos c4 (ev_eq (if_pos (by omega : (out.length : Int) ≥ 500)).symm (ev_ret _))
              · exact ev_neg c4 (ev_pos (by omega) (ev_eq (if_neg (by omega : ¬ (out.length : Int) ≥ 500)).symm (impl_signs s hs n e' (out ++ [x]) (by omega) r2 (by omega) (by rw [List.length_append, List.length_singleton]; omega))))
    · exact ev_neg c (ev_eq (if_neg c).symm (ev_ret _))
theorem SignsOf_ev (s : ByteArray) (hs : s.size ≤ 1048576) : ∃ r : List S50 × Int, Ev (fun k => spec_SignsOf.f k s) r ∧ Ev (fun k => impl_SignsOf.f k s) r ∧ r.1.length ≤ 500 := by
  unfold spec_SignsOf.f impl_SignsOf.f
  by_cases c : (s.size : Int) > 1500
  · exact ⟨([], 1), ev_pos c (ev_ret _), ev_pos c (ev_ret _), by simp⟩
  · exact ⟨signsP s.size s 0 [], ev_neg c (spec_signs s (by omega) s.size 0 [] (by omega) (by omega) (by omega) (by simp)), ev_neg c (impl_signs s (by omega) s.size 0 [] (by omega) (by omega) (by omega) (by simp)), signsP_length s _ _ _ (by simp)⟩

theorem markText_l0 (d : Nat) : ∀ (m : Int) (x : ByteArray), 0 ≤ m → m < 10 ^ d → x.size + d ≤ 1000 → m ≤ 9223372036854775807 → ∃ t, Ev (fun k => laws_markText.l0 k m x) t := by
  induction d with
  | zero =>
    intro m x h0 h1 hx _
    refine ⟨(⟨#[109]⟩ : ByteArray) ++ x, ev_step ?_⟩
    simp only [laws_markText.l0]
    exact ev_neg (by omega) (ev_pos (by omega) (ev_ret _))
  | succ d ih =>
    intro m x h0 h1 hx hm
    rw [Int.pow_succ] at h1
    by_cases c : m > 0
    · obtain ⟨t, ht⟩ := ih (m / 10) (strOfNums [(wrap64 (48 + (Int.tmod m 10))) % 256] ++ x) (by omega) (by omega) (by rw [ByteArray.size_append, strOfNums_size]; simp; omega) (by omega)
      refine ⟨t, ev_step ?_⟩
      simp only [laws_markText.l0]
      refine ev_pos c (ev_bindc rfl (ev_pos ?_ ?_))
      · rw [strOfNums_size]
        simp
        omega
      · rw [Int.tdiv_eq_ediv_of_nonneg h0, w64 (x := m / 10) (by omega) (by omega)]
        exact ht
    · refine ⟨(⟨#[109]⟩ : ByteArray) ++ x, ev_step ?_⟩
      simp only [laws_markText.l0]
      exact ev_neg c (ev_pos (by omega) (ev_ret _))
theorem markText_some (m : Int) (h0 : 0 ≤ m) (h1 : m ≤ 10000000000000) : ∃ t, Ev (fun k => laws_markText.f k m) t := by
  unfold laws_markText.f
  by_cases c : m ≤ 0
  · exact ⟨_, ev_pos c (ev_ret _)⟩
  · obtain ⟨t, ht⟩ := markText_l0 14 m ⟨#[]⟩ h0 (by omega) (by decide) (by omega)
    exact ⟨t, ev_neg c ht⟩
open Classical in
noncomputable def markT (m : Int) : ByteArray := if h : 0 ≤ m ∧ m ≤ 10000000000000 then Classical.choose (markText_some m h.1 h.2) else ByteArray.empty
theorem markT_ev (m : Int) (h0 : 0 ≤ m) (h1 : m ≤ 10000000000000) : Ev (fun k => laws_markText.f k m) (markT m) := by
  unfold markT
  rw [dif_pos ⟨h0, h1⟩]
  exact Classical.choose_spec (markText_some m h0 h1)

noncomputable def mkS (m : Int) : S50 := ⟨m, markT (m + 1), m + 2, m + 3⟩
noncomputable def upS : Int → Nat → List S50
  | _, 0 => []
  | m, n + 1 => mkS m :: upS (m + 4) n
theorem upS_length : ∀ (n : Nat) (m : Int), (upS m n).length = n
  | 0, _ => rfl
  | n + 1, m => by simp [upS, upS_length n]
theorem upS_snoc : ∀ (n : Nat) (m : Int), upS m n ++ [mkS (m + 4 * n)] = upS m (n + 1)
  | 0, m => by simp [upS]
  | n + 1, m => by
    have h := upS_snoc n (m + 4)
    rw [show m + 4 + 4 * (n : Int) = m + 4 * ((n + 1 : Nat) : Int) by omega] at h
    show mkS m :: (upS (m + 4) n ++ [mkS (m + 4 * ((n + 1 : Nat) : Int))]) = mkS m :: upS (m + 4) (n + 1)
    rw [h]
theorem upS_get : ∀ (N : Nat) (m : Int) (i : Nat), i < N → (upS m N)[i]? = some (mkS (m + 4 * i))
  | 0, m, i, h => by omega
  | N + 1, m, 0, h => by simp [upS]
  | N + 1, m, i + 1, h => by
    simp only [upS, List.getElem?_cons_succ]
    rw [upS_get N (m + 4) i (by omega), show m + 4 + 4 * (i : Int) = m + 4 * ((i + 1 : Nat) : Int) by omega]
theorem upS_rd (m : Int) (N i : Nat) (h : i < N) : rd_T50 (upS m N) i = mkS (m + 4 * i) := by
  unfold rd_T50
  rw [List.getD_eq_getElem?_getD, show ((i : Int)).toNat = i by omega, upS_get N m i h]
  rfl
theorem rd_setS (l : List S50) (i : Nat) (x : S50) (h : i < l.length) : rd_T50 (l.set i x) i = x := by
  unfold rd_T50
  rw [List.getD_eq_getElem?_getD, show ((i : Int)).toNat = i by omega, List.getElem?_set_self h]
  rfl
theorem markSignS_l0 (m : Int) (N : Nat) (hN : N ≤ 500) (hm : 0 ≤ m) (hm2 : m ≤ 1000) (n : Nat) : ∀ (l : List S50) (i : Nat), l.length = N → i + n = N → l.take i = upS m i → Ev (fun k => laws_markSignS.l0 k l (m + 4 * i) i) (m + 4 * N, upS m N) := by
  induction n with
  | zero =>
    intro l i hl hn ht
    refine ev_step ?_
    simp only [laws_markSignS.l0]
    refine ev_neg (by omega) (ev_eq ?_ (ev_ret _))
    obtain rfl : i = N := by omega
    rw [List.take_of_length_le (by omega)] at ht
    rw [ht]
  | succ n ih =>
    intro l i hl hn ht
    refine ev_step ?_
    have c1 : (i : Int) < (l.length : Int) := by omega
    have c2 : 0 ≤ (i : Int) := by omega
    have c3 : 0 ≤ m + 4 * (i : Int) + 1 := by omega
    have c4 : m + 4 * (i : Int) + 1 ≤ 10000000000000 := by omega
    have hi : i < l.length := by omega
    simp only [laws_markSignS.l0, Option.bind_some]
    have e0 : ((i : Nat) : Int).toNat = i := by omega
    have w1 : wrap64 (m + 4 * (i : Int) + 1) = m + 4 * (i : Int) + 1 := w64 (by omega) (by omega)
    have w2 : wrap64 (m + 4 * (i : Int) + 1 + 1) = m + 4 * (i : Int) + 2 := by rw [w64 (x := m + 4 * (i : Int) + 1 + 1) (by omega) (by omega)]; omega
    have w3 : wrap64 (m + 4 * (i : Int) + 2 + 1) = m + 4 * (i : Int) + 3 := by rw [w64 (x := m + 4 * (i : Int) + 2 + 1) (by omega) (by omega)]; omega
    have w4 : wrap64 (m + 4 * (i : Int) + 3 + 1) = m + 4 * ((i + 1 : Nat) : Int) := by rw [w64 (x := m + 4 * (i : Int) + 3 + 1) (by omega) (by omega)]; omega
    have w5 : wrap64 ((i : Int) + 1) = ((i + 1 : Nat) : Int) := by rw [w64 (x := (i : Int) + 1) (by omega) (by omega)]; omega
    simp only [e0, w1, w2, w3, w4, w5]
    refine ev_pos c1 (ev_pos c2 (Ev.bind (markT_ev (m + 4 * (i : Int) + 1) c3 c4) ?_))
    have h := ih (l.set i (mkS (m + 4 * i))) (i + 1) (by simpa using hl) (by omega) (by rw [set_take _ _ _ hi, ht]; exact upS_snoc i m)
    have e1 := fun x => rd_setS l i x hi
    have e2 := fun x y => rd_setS (l.set i x) i y (by simpa using hi)
    have e3 := fun x y z => rd_setS ((l.set i x).set i y) i z (by simpa using hi)
    simp only [e1, e2, e3, List.set_set]
    exact h
theorem markSignS_ev (l : List S50) (hl : l.length ≤ 500) : Ev (fun k => laws_markSignS.f k l 1) (1 + 4 * l.length, upS 1 l.length) := by
  unfold laws_markSignS.f
  have h := markSignS_l0 1 l.length hl (by omega) (by omega) l.length l 0 rfl (by omega) rfl
  simpa using h
theorem heldSignS_l0 (m : Int) (N : Nat) (hN : N ≤ 500) (hm : 0 ≤ m) (hm2 : m ≤ 1000) (n : Nat) : ∀ (i : Nat), i + n = N → Ev (fun k => laws_heldSignS.l0 k (upS m N) (m + 4 * i) i) (m + 4 * N) := by
  have hl := upS_length N m
  induction n with
  | zero =>
    intro i hn
    refine ev_step ?_
    simp only [laws_heldSignS.l0]
    obtain rfl : i = N := by omega
    exact ev_neg (by omega) (ev_ret _)
  | succ n ih =>
    intro i hn
    refine ev_step ?_
    simp only [laws_heldSignS.l0]
    have w1 : wrap64 (m + 4 * (i : Int) + 1) = m + 4 * (i : Int) + 1 := w64 (by omega) (by omega)
    have w2 : wrap64 (m + 4 * (i : Int) + 1 + 1) = m + 4 * (i : Int) + 2 := by rw [w64 (x := m + 4 * (i : Int) + 1 + 1) (by omega) (by omega)]; omega
    have w3 : wrap64 (m + 4 * (i : Int) + 2 + 1) = m + 4 * (i : Int) + 3 := by rw [w64 (x := m + 4 * (i : Int) + 2 + 1) (by omega) (by omega)]; omega
    have w4 : wrap64 (m + 4 * (i : Int) + 3 + 1) = m + 4 * ((i + 1 : Nat) : Int) := by rw [w64 (x := m + 4 * (i : Int) + 3 + 1) (by omega) (by omega)]; omega
    have w5 : wrap64 ((i : Int) + 1) = ((i + 1 : Nat) : Int) := by rw [w64 (x := (i : Int) + 1) (by omega) (by omega)]; omega
    simp only [w1, w2, w3, w4, w5, upS_rd m N i (by omega)]
    exact ev_pos (by omega) (ev_pos (by omega) (ev_pos rfl (Ev.bind (markT_ev (m + 4 * (i : Int) + 1) (by omega) (by omega)) (ev_pos rfl (ev_pos rfl (ev_pos rfl (ih (i + 1) (by omega))))))))
theorem heldSignS_ev (N : Nat) (hN : N ≤ 500) : Ev (fun k => laws_heldSignS.f k (upS 1 N) 1) (1 + 4 * N) := by
  unfold laws_heldSignS.f
  have h := heldSignS_l0 1 N hN (by omega) (by omega) N 0 (by omega)
  simpa using h

theorem FnExactSignsOf : Go.Proofs.Ytppfilhlblnmcaa.OpnFnExactSignsOf.Pure := by
  intro s hs
  refine Ev.rounds ?_
  unfold laws_FnExactSignsOf.f
  by_cases c : (s.size : Int) > 1048576
  · exact ev_pos c (ev_ret _)
  · obtain ⟨⟨l, x⟩, h1, h2, h3⟩ := SignsOf_ev s (by omega)
    dsimp only at h3
    have he := eqSignS_ev l (by omega)
    have hm := markSignS_ev l h3
    have hh := heldSignS_ev l.length h3
    refine ev_neg c (Ev.bind h1 (Ev.bind h2 (Ev.bind he (ev_pos rfl ?_))))
    refine ev_step ?_
    simp only [laws_FnExactSignsOf.j0]
    refine ev_neg (by simp) (Ev.bind hm (Ev.bind hh (ev_neg (by omega) (ev_pos rfl (Ev.bind h2 (Ev.bind he (ev_pos rfl ?_)))))))
    refine ev_step ?_
    simp only [laws_FnExactSignsOf.j1]
    exact ev_neg (by simp) (Ev.bind hh (ev_neg (by omega) (ev_pos rfl (ev_ret _))))

end Go.Proofs.Ytppfilhlblnmcaa.Pure
