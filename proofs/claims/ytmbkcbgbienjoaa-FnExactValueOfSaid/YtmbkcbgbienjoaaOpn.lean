/- Whatever an argument's data read as is a value of its kind: whole numbers, texts, slices, structs, whatever stands in them. No condition beyond what the row gives. -/
import Derived.Test.YtmbkcbgbienjoaaWMore
import Derived.Test.YtmbkcbgbienjoaaWN
import Derived.ChangeArms
import Derived.Deep.Slices
import Derived.WideShapes
import Derived.DataReads
set_option linter.unusedVariables false
set_option linter.unusedSimpArgs false
namespace Go.Proofs.Ytmbkcbgbienjoaa.Opn
open Go.RowKit Go.WideShapes Go.Proofs.YtmbkcbgbienjoaaW.PrintWords Go.Proofs.YtmbkcbgbienjoaaW.PrintLast Go.Proofs.YtmbkcbgbienjoaaW.PrintMore

/-- Whatever reads at type t is a value of kind d, and good. -/
def Opn {H : Type} (enc : TypeId × Value → H) (P : Program) (w : World) (t : TypeId) {α : Type} (d : Kd α) (G : α → Prop) : Prop :=
  ∀ (fuel : Nat) (cs : List Value) (x : DataW H × List MemPlace), DataW.trod enc P w 0 (fun _ => true) true fuel t cs = some x → ∃ a, d.K w a cs ∧ G a
def GI (k : IntKind) (a : Int) : Prop := (Lit.int k a).wf = true
def GB (_ : Bool) : Prop := True
def GS (a : ByteArray) : Prop := a.size ≤ 9223372036854775807
def GL {α : Type} (G : α → Prop) (l : List α) : Prop := l.length ≤ 9223372036854775807 ∧ ∀ x ∈ l, G x

theorem choose_list {α : Type} {p : Nat → α → Prop} : ∀ (n : Nat), (∀ i, i < n → ∃ x, p i x) → ∃ l : List α, l.length = n ∧ ∀ (i : Nat) (x : α), l[i]? = some x → p i x
  | 0, _ => ⟨[], rfl, fun i x h => by simp at h⟩
  | n + 1, h => by
    obtain ⟨l, hl, hp⟩ := choose_list n (fun i hi => h i (by omega))
    obtain ⟨y, hy⟩ := h n (by omega)
    refine ⟨l ++ [y], by simp [hl], fun i x hx => ?_⟩
    rcases Nat.lt_trichotomy i n with hi | hi | hi
    · rw [List.getElem?_append_left (by omega)] at hx
      exact hp i x hx
    · subst hi
      rw [List.getElem?_append_right (by omega), hl] at hx
      simp at hx
      exact hx ▸ hy
    · rw [List.getElem?_eq_none (by simp [hl]; omega)] at hx
      cases hx

section
variable {H : Type} {enc : TypeId × Value → H} {P : Program} {w : World}

theorem opn_int {t : TypeId} {k : IntKind} (ht : P.underlying t = some (.int k)) : Opn enc P w t (Kd.int k) (GI k) := by
  intro fuel cs x h
  obtain ⟨n, rfl, _, hw⟩ := DataW.trod_int ht h
  exact ⟨n, rfl, hw⟩
theorem opn_bool {t : TypeId} (ht : P.underlying t = some .bool) : Opn enc P w t Kd.bool GB := by
  intro fuel cs x h
  obtain ⟨b, rfl, _⟩ := DataW.trod_bool ht h
  exact ⟨b, rfl, trivial⟩
theorem opn_str {t : TypeId} (ht : P.underlying t = some .string) : Opn enc P w t Kd.string GS := by
  intro fuel cs x h
  obtain ⟨s, rfl, _, hs⟩ := DataW.trod_string ht h
  exact ⟨s, rfl, hs⟩
theorem opn_slice {α : Type} {d : Kd α} {G : α → Prop} {t e : TypeId} (q : Nat) (ht : P.underlying t = some (.slice e)) (hc : P.cellsOf e = d.sz) (h0 : Opn enc P w e d G) : Opn enc P w t (Kd.slice q d) (GL G) := by
  intro fuel cs x h
  rcases Go.Deep.open_slice ht h with ⟨rfl, _⟩ | ⟨a, len, cap, m, n, D, Pl, rfl, _, hl, hm, hmm, _, hx⟩
  · exact ⟨[], ⟨none, 0, rfl, Nat.le_refl _, Kd.C_nil d w⟩, by simp, by simp⟩
  · simp only [if_true] at hmm
    subst hmm
    obtain ⟨l, hll, hp⟩ := choose_list (p := fun i y => ∃ c, w.cells? 0 (a.add (i * P.cellsOf e)) (P.cellsOf e) = some c ∧ d.K w y c ∧ G y) len (fun i hi => by
      obtain ⟨c, h1, h2⟩ := hx i (by omega)
      obtain ⟨y, h3, h4⟩ := h0 _ _ _ h2
      exact ⟨y, c, h1, h3, h4⟩)
    have hmx : len ≤ 9223372036854775807 := by simp only [maxLen] at hm; omega
    refine ⟨l, ⟨some a, m, by rw [hll], by omega, rfl, by rw [hll]; exact hmx, fun _ => ⟨a, rfl, fun j y hj => ?_⟩⟩, by rw [hll]; exact hmx, fun y hy => ?_⟩
    · obtain ⟨c, h1, h2, _⟩ := hp j y hj
      obtain ⟨_, h3, h4⟩ := World.cells?_some h1
      refine ⟨c, d.K_len h2, h2, fun i u hu => ?_⟩
      have hi : i < P.cellsOf e := by
        have := (List.getElem?_eq_some_iff.1 hu).1
        rw [d.K_len h2] at this
        omega
      have h5 := h4 i hi
      rw [Go.Deep.add_add, hc] at h5
      rw [h5, hu]
    · obtain ⟨j, hj, rfl⟩ := List.mem_iff_getElem.1 hy
      obtain ⟨c, _, _, h2⟩ := hp j _ (List.getElem?_eq_getElem hj)
      exact h2

/-- The fields from one on, in line. -/
def OpnF (enc : TypeId × Value → H) (P : Program) (w : World) (fs : List Field) (off : Nat) {α : Type} (d : Kd α) (G : α → Prop) : Prop :=
  ∀ (n : Nat) (cs : List Value), cs.length = off + d.sz → (∀ f ∈ fs, ∃ x, DataW.trod enc P w 0 (fun _ => true) true n f.type ((cs.drop f.offset).take (P.cellsOf f.type)) = some x) → ∃ a, d.K w a (cs.drop off) ∧ G a
theorem opnF_one {α : Type} {d : Kd α} {G : α → Prop} {f : Field} {off : Nat} (ho : f.offset = off) (hc : P.cellsOf f.type = d.sz) (h0 : Opn enc P w f.type d G) : OpnF enc P w [f] off d G := by
  intro n cs hl hf
  obtain ⟨x, hx⟩ := hf f (by simp)
  obtain ⟨a, h1, h2⟩ := h0 _ _ _ hx
  rw [ho, hc, List.take_of_length_le (by simp; omega)] at h1
  exact ⟨a, h1, h2⟩
theorem opnF_cons {α β : Type} {d : Kd α} {d' : Kd β} {G : α → Prop} {G' : β → Prop} {f : Field} {fs : List Field} {off off' : Nat} (ho : f.offset = off) (hc : P.cellsOf f.type = d.sz) (h0 : Opn enc P w f.type d G)
    (ho' : off' = off + d.sz) (h1 : OpnF enc P w fs off' d' G') : OpnF enc P w (f :: fs) off (Kd.pair d d') (fun x => G x.1 ∧ G' x.2) := by
  intro n cs hl hf
  have hl' : cs.length = off + (d.sz + d'.sz) := hl
  obtain ⟨x, hx⟩ := hf f (by simp)
  obtain ⟨a, h2, h3⟩ := h0 _ _ _ hx
  obtain ⟨b, h4, h5⟩ := h1 n cs (by omega) (fun g hg => hf g (by simp [hg]))
  rw [ho, hc] at h2
  refine ⟨(a, b), ⟨_, _, ?_, h2, h4⟩, h3, h5⟩
  rw [ho', ← List.drop_drop, List.take_append_drop]
theorem opn_struct {α β : Type} {d : Kd β} {G : β → Prop} {t : TypeId} {fs : Array Field} (pr : α → β) (mk : β → α) (hpr : ∀ b, pr (mk b) = b) (ht : P.underlying t = some (.struct fs)) (hc : P.cellsOf t = d.sz) (h0 : OpnF enc P w fs.toList 0 d G) :
    Opn enc P w t (Kd.iso d pr) (fun x => G (pr x)) := by
  intro fuel cs x h
  obtain ⟨xs, n, _, _, hl, hlen, hf⟩ := DataW.trod_struct ht h
  obtain ⟨a, h1, h2⟩ := h0 n cs (by omega) (fun f hfm => by
    obtain ⟨i, hi, rfl⟩ := List.mem_iff_getElem.1 hfm
    have hi2 : i < fs.size := by simpa using hi
    have h3 := hf i _ (Array.getElem?_eq_getElem hi2)
    have h4 : i < xs.length := by omega
    rw [List.getElem?_eq_getElem h4] at h3
    exact ⟨_, by simpa using h3⟩)
  refine ⟨mk a, ?_, ?_⟩
  · show d.K w (pr (mk a)) cs
    rw [hpr]
    exact h1
  · show G (pr (mk a))
    rw [hpr]
    exact h2
/-- A slice that is an argument. -/
theorem top_slice {α : Type} {d : Kd α} {G : α → Prop} {t e : TypeId} {r : Reach} {b0 : Nat} {v : Value} {dd : DataW H} {p : List MemPlace} (ht : P.underlying t = some (.slice e)) (hc : P.cellsOf e = d.sz) (h0 : Opn enc P w e d G)
    (hv : Value.okWide P w r b0 t v) (h : DataW.Trod enc P w 0 (fun _ => true) true t v dd p) : ∃ A c l, v = .slice A l.length c ∧ d.C w A l.length l ∧ l.length ≤ c ∧ GL G l := by
  obtain ⟨A, len, cap, rfl⟩ := okWide_slice ht hv
  obtain ⟨fuel, hf⟩ := h
  obtain ⟨l, ⟨A', c', hcs, hlc, hC⟩, hG⟩ := opn_slice 0 ht hc h0 _ _ _ hf
  have hcs2 : [Value.slice A len cap] = [Value.slice A' l.length c'] := by simpa [Value.cells] using hcs
  injection hcs2 with hcs2 _
  injection hcs2 with e1 e2 e3
  subst e1 e2 e3
  exact ⟨_, _, l, rfl, hC, hlc, hG⟩
/-- A struct that is an argument. -/
theorem top_struct {α : Type} {d : Kd α} {G : α → Prop} {t : TypeId} {fs : Array Field} {r : Reach} {b0 : Nat} {v : Value} {dd : DataW H} {p : List MemPlace} (ht : P.underlying t = some (.struct fs)) (h0 : Opn enc P w t d G)
    (hv : Value.okWide P w r b0 t v) (h : DataW.Trod enc P w 0 (fun _ => true) true t v dd p) : ∃ (a : α) (cs : List Value), v = .agg cs.toArray ∧ d.K w a cs ∧ G a := by
  obtain ⟨cs, rfl, _⟩ := okWide_struct ht hv
  obtain ⟨fuel, hf⟩ := h
  obtain ⟨a, h1, h2⟩ := h0 _ _ _ hf
  exact ⟨a, cs.toList, by simp, by simpa [Value.cells] using h1, h2⟩
end
end Go.Proofs.Ytmbkcbgbienjoaa.Opn
