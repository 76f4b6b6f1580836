/- An abstract machine for the walks: values and objects without addresses, an evaluator of the operations, sound for the model's walk. No condition. -/
import GoSem.Step
import Derived.Calls
import Derived.Laws.Sem
import Derived.Laws.OwnMore
import Derived.Laws.Strings
import Derived.Laws.StructEq
import Derived.Laws.BytesArg
import Derived.Great.FillDense
import Derived.Great.BuildSlice
import Derived.Lib.ConvBytes
/- An abstract machine for the walks, part 1: values without addresses, and what it means that memory holds them. No condition. -/
set_option linter.unusedVariables false
namespace Go.Proofs.Ytppfilhlblnmcaa.Abs
open Go

/-- What one cell of memory, or one value that is no struct, holds. `sl k s cs`: a slice, s cells an element, all its cells in line; k: none: whoever reads it may not write it; some 0: this place alone knows its array; some (n + 1): lent by the caller: the header stays as it came (hv n). `hole`: whatever. -/
inductive Cell where
  | hole
  | sc (v : Value)
  | sl (k : Option Nat) (s : Nat) (cs : List Cell)
  deriving Inhabited

/-- A value that a cell can hold. -/
abbrev flat (v : Value) : Bool := v.oneCell'

mutual
/-- In memory w, value v holds what the cell says; F: the blocks that it owns; A: the blocks that may be read and are nobody's. -/
def Rep (w : World) (A : Nat → Prop) (hv : Nat → Value) : Cell → Value → List Nat → Prop
  | .hole, v, F => flat v = true ∧ F = []
  | .sc u, v, F => v = u ∧ flat u = true ∧ F = []
  | .sl k s cs, v, F => ∃ base len cap, v = .slice base len cap ∧ 0 < s ∧ len * s = cs.length ∧ len ≤ cap ∧ (∀ n, k = some (n + 1) → v = hv n) ∧
      match base with
      | none => cap = 0 ∧ F = []
      | some a => (k ≠ none ∨ cs ≠ [] → a.spot = none) ∧ ∃ vs G, RepL w A hv cs vs G ∧ (∀ (i : Nat) u, vs[i]? = some u → w.cell? ⟨a.block, a.off + i, none⟩ = some u) ∧
        match k with
        | none => G = [] ∧ F = [] ∧ (cs ≠ [] → A a.block)
        | some _ => a.off = 0 ∧ F = a.block :: G ∧ ∃ c e, w.heap[a.block]? = some (.cells c e (0, 0)) ∧ c.size = cap * s
def RepL (w : World) (A : Nat → Prop) (hv : Nat → Value) : List Cell → List Value → List Nat → Prop
  | [], vs, F => vs = [] ∧ F = []
  | c :: cs, vs, F => ∃ v us F1 F2, vs = v :: us ∧ F = F1 ++ F2 ∧ Rep w A hv c v F1 ∧ RepL w A hv cs us F2
end

theorem cell_congr {w w' : World} {b o : Nat} {s : Option Nat} (h : w'.heap[b]? = w.heap[b]?) : w'.cell? ⟨b, o, s⟩ = w.cell? ⟨b, o, s⟩ := by
  simp only [World.cell?, h]

theorem cell_some_lt {w : World} {a : Addr} {v : Value} (h : w.cell? a = some v) : a.block < w.heap.size := by
  unfold World.cell? at h
  cases hb : w.heap[a.block]? with
  | none => rw [hb] at h; cases h
  | some o => exact (Array.getElem?_eq_some_iff.1 hb).1

mutual
/-- Where the blocks that count are as they were, and no block is taken away from what may be read, a cell holds what it held. -/
theorem Rep.frame {w w' : World} {A A' : Nat → Prop} {hv : Nat → Value} : ∀ (c : Cell) (v : Value) (F : List Nat), Rep w A hv c v F → (∀ b, b < w.heap.size → (A b ∨ b ∈ F) → w'.heap[b]? = w.heap[b]?) → (∀ b, b < w.heap.size → A b → A' b) → Rep w' A' hv c v F
  | .hole, v, F, h, _, _ => h
  | .sc u, v, F, h, _, _ => h
  | .sl k s cs, v, F, h, hf, hA => by
    obtain ⟨base, len, cap, rfl, hs, hl, hc, hm, h⟩ := h
    refine ⟨base, len, cap, rfl, hs, hl, hc, hm, ?_⟩
    cases base with
    | none => exact h
    | some a =>
      obtain ⟨hsp, vs, G, hR, hcell, hk⟩ := h
      have hGF : ∀ b ∈ G, b ∈ F := by
        cases k with
        | none => intro b hb; rw [hk.1] at hb; cases hb
        | some n => intro b hb; rw [hk.2.1]; exact List.mem_cons_of_mem _ hb
      refine ⟨hsp, vs, G, RepL.frame cs vs G hR (fun b hlt hb => hf b hlt (hb.imp id (hGF b))) hA, ?_, ?_⟩
      · intro i u hi
        have h1 := hcell i u hi
        have hlt := cell_some_lt h1
        rw [cell_congr (hf a.block hlt ?_)]
        · exact h1
        · cases k with
          | none =>
            refine .inl (hk.2.2 ?_)
            intro hn
            subst hn
            rw [hR.1] at hi
            simp at hi
          | some n => rw [hk.2.1]; exact .inr List.mem_cons_self
      · cases k with
        | none =>
          refine ⟨hk.1, hk.2.1, fun hn => ?_⟩
          obtain ⟨c0, rest, rfl⟩ := List.exists_cons_of_ne_nil hn
          obtain ⟨v0, us, F1, F2, rfl, rfl, _, _⟩ := hR
          exact hA a.block (cell_some_lt (a := ⟨a.block, a.off + 0, none⟩) (hcell 0 v0 rfl)) (hk.2.2 hn)
        | some n =>
          obtain ⟨h0, hF, c, e, hb, hsz⟩ := hk
          refine ⟨h0, hF, c, e, ?_, hsz⟩
          rw [hf a.block (Array.getElem?_eq_some_iff.1 hb).1 (.inr (by rw [hF]; exact List.mem_cons_self))]
          exact hb
theorem RepL.frame {w w' : World} {A A' : Nat → Prop} {hv : Nat → Value} : ∀ (cs : List Cell) (vs : List Value) (F : List Nat), RepL w A hv cs vs F → (∀ b, b < w.heap.size → (A b ∨ b ∈ F) → w'.heap[b]? = w.heap[b]?) → (∀ b, b < w.heap.size → A b → A' b) → RepL w' A' hv cs vs F
  | [], vs, F, h, _, _ => h
  | c :: cs, vs, F, h, hf, hA => by
    obtain ⟨v, us, F1, F2, rfl, rfl, h1, h2⟩ := h
    exact ⟨v, us, F1, F2, rfl, rfl, Rep.frame c v F1 h1 (fun b hlt hb => hf b hlt (hb.imp id (fun h => List.mem_append.2 (.inl h)))) hA,
      RepL.frame cs us F2 h2 (fun b hlt hb => hf b hlt (hb.imp id (fun h => List.mem_append.2 (.inr h)))) hA⟩
end

theorem RepL.length {w : World} {A : Nat → Prop} {hv : Nat → Value} : ∀ {cs : List Cell} {vs : List Value} {F : List Nat}, RepL w A hv cs vs F → vs.length = cs.length
  | [], vs, F, h => by rw [h.1]; rfl
  | c :: cs, vs, F, h => by
    obtain ⟨v, us, F1, F2, rfl, rfl, h1, h2⟩ := h
    simp [RepL.length h2]

theorem RepL.append {w : World} {A : Nat → Prop} {hv : Nat → Value} : ∀ {cs ds : List Cell} {vs us : List Value} {F G : List Nat}, RepL w A hv cs vs F → RepL w A hv ds us G → RepL w A hv (cs ++ ds) (vs ++ us) (F ++ G)
  | [], ds, vs, us, F, G, h, k => by rw [h.1, h.2]; exact k
  | c :: cs, ds, vs, us, F, G, h, k => by
    obtain ⟨v, ws, F1, F2, rfl, rfl, h1, h2⟩ := h
    exact ⟨v, ws ++ us, F1, F2 ++ G, rfl, by simp, h1, RepL.append h2 k⟩

theorem RepL.split {w : World} {A : Nat → Prop} {hv : Nat → Value} : ∀ {cs ds : List Cell} {vs : List Value} {F : List Nat}, RepL w A hv (cs ++ ds) vs F → ∃ v1 v2 F1 F2, vs = v1 ++ v2 ∧ F = F1 ++ F2 ∧ RepL w A hv cs v1 F1 ∧ RepL w A hv ds v2 F2
  | [], ds, vs, F, h => ⟨[], vs, [], F, rfl, rfl, ⟨rfl, rfl⟩, h⟩
  | c :: cs, ds, vs, F, h => by
    obtain ⟨v, us, F1, F2, rfl, rfl, h1, h2⟩ := h
    obtain ⟨v1, v2, G1, G2, rfl, rfl, k1, k2⟩ := RepL.split h2
    exact ⟨v :: v1, v2, F1 ++ G1, G2, rfl, by simp, ⟨v, v1, F1, G1, rfl, rfl, h1, k1⟩, k2⟩

theorem Rep.one {w : World} {A : Nat → Prop} {hv : Nat → Value} {c : Cell} {v : Value} {F : List Nat} (h : Rep w A hv c v F) : RepL w A hv [c] [v] F :=
  ⟨v, [], F, [], rfl, by simp, h, rfl, rfl⟩
theorem RepL.one {w : World} {A : Nat → Prop} {hv : Nat → Value} {c : Cell} {v : Value} {F : List Nat} (h : RepL w A hv [c] [v] F) : Rep w A hv c v F := by
  obtain ⟨v, us, F1, F2, h1, rfl, h2, h3, rfl⟩ := h
  cases h1
  simpa using h2

theorem Rep.flat {w : World} {A : Nat → Prop} {hv : Nat → Value} {c : Cell} {v : Value} {F : List Nat} (h : Rep w A hv c v F) : flat v = true := by
  cases c with
  | hole => exact h.1
  | sc u => obtain ⟨rfl, h, _⟩ := h; exact h
  | sl k s cs => obtain ⟨base, len, cap, rfl, _⟩ := h; rfl

theorem RepL.flat {w : World} {A : Nat → Prop} {hv : Nat → Value} : ∀ {cs : List Cell} {vs : List Value} {F : List Nat}, RepL w A hv cs vs F → ∀ v ∈ vs, flat v = true
  | [], vs, F, h, v, hv => by rw [h.1] at hv; cases hv
  | c :: cs, vs, F, h, v, hv => by
    obtain ⟨u, us, F1, F2, rfl, rfl, h1, h2⟩ := h
    rcases List.mem_cons.1 hv with rfl | hv
    · exact h1.flat
    · exact RepL.flat h2 v hv

mutual
/-- Every block that a cell owns is there. -/
theorem Rep.lt {w : World} {A : Nat → Prop} {hv : Nat → Value} : ∀ (c : Cell) (v : Value) (F : List Nat), Rep w A hv c v F → ∀ b ∈ F, b < w.heap.size
  | .hole, v, F, h, b, hb => by rw [h.2] at hb; cases hb
  | .sc u, v, F, h, b, hb => by rw [h.2.2] at hb; cases hb
  | .sl k s cs, v, F, h, b, hb => by
    obtain ⟨base, len, cap, rfl, hs, hl, hc, hm, h⟩ := h
    cases base with
    | none => rw [h.2] at hb; cases hb
    | some a =>
      obtain ⟨hsp, vs, G, hR, hcell, hk⟩ := h
      cases k with
      | none => rw [hk.2.1] at hb; cases hb
      | some n =>
        obtain ⟨h0, hF, c, e, hbk, hsz⟩ := hk
        rw [hF] at hb
        rcases List.mem_cons.1 hb with rfl | hb
        · exact (Array.getElem?_eq_some_iff.1 hbk).1
        · exact RepL.lt cs vs G hR b hb
theorem RepL.lt {w : World} {A : Nat → Prop} {hv : Nat → Value} : ∀ (cs : List Cell) (vs : List Value) (F : List Nat), RepL w A hv cs vs F → ∀ b ∈ F, b < w.heap.size
  | [], vs, F, h, b, hb => by rw [h.2] at hb; cases hb
  | c :: cs, vs, F, h, b, hb => by
    obtain ⟨v, us, F1, F2, rfl, rfl, h1, h2⟩ := h
    rcases List.mem_append.1 hb with hb | hb
    · exact Rep.lt c v F1 h1 b hb
    · exact RepL.lt cs us F2 h2 b hb
end

mutual
/-- Nothing in it is owned. -/
def cpy : Cell → Bool
  | .hole => true
  | .sc _ => true
  | .sl k _ cs => k.isNone && cpyL cs
def cpyL : List Cell → Bool
  | [] => true
  | c :: cs => cpy c && cpyL cs
/-- It, as one reads it who may not write. -/
def shr : Cell → Cell
  | .hole => .hole
  | .sc v => .sc v
  | .sl _ s cs => .sl none s (shrL cs)
def shrL : List Cell → List Cell
  | [] => []
  | c :: cs => shr c :: shrL cs
/-- Nothing in it is somebody else's too. -/
def pure1 : Cell → Bool
  | .hole => true
  | .sc _ => true
  | .sl k _ cs => (k.isSome || cs.isEmpty) && pureL cs
def pureL : List Cell → Bool
  | [] => true
  | c :: cs => pure1 c && pureL cs
end

mutual
theorem Rep.cpy {w : World} {A : Nat → Prop} {hv : Nat → Value} : ∀ (c : Cell) (v : Value) (F : List Nat), Rep w A hv c v F → cpy c = true → F = []
  | .hole, v, F, h, _ => h.2
  | .sc u, v, F, h, _ => h.2.2
  | .sl k s cs, v, F, h, hc => by
    obtain ⟨base, len, cap, rfl, hs, hl, hc', hm, h⟩ := h
    cases k with
    | some n => simp [Abs.cpy] at hc
    | none =>
      cases base with
      | none => exact h.2
      | some a => obtain ⟨_, _, _, _, _, hk⟩ := h; exact hk.2.1
theorem RepL.cpy {w : World} {A : Nat → Prop} {hv : Nat → Value} : ∀ (cs : List Cell) (vs : List Value) (F : List Nat), RepL w A hv cs vs F → cpyL cs = true → F = []
  | [], vs, F, h, _ => h.2
  | c :: cs, vs, F, h, hc => by
    obtain ⟨v, us, F1, F2, rfl, rfl, h1, h2⟩ := h
    simp only [cpyL, Bool.and_eq_true] at hc
    rw [Rep.cpy c v F1 h1 hc.1, RepL.cpy cs us F2 h2 hc.2]; rfl
end

mutual
/-- What is held may be read: then all its blocks are such as may be read. -/
theorem Rep.shr {w : World} {A A' : Nat → Prop} {hv : Nat → Value} : ∀ (c : Cell) (v : Value) (F : List Nat), Rep w A hv c v F → (∀ b, A b → A' b) → (∀ b ∈ F, A' b) → Rep w A' hv (shr c) v []
  | .hole, v, F, h, _, _ => ⟨h.1, rfl⟩
  | .sc u, v, F, h, _, _ => ⟨h.1, h.2.1, rfl⟩
  | .sl k s cs, v, F, h, hA, hF => by
    obtain ⟨base, len, cap, rfl, hs, hl, hc, hm, h⟩ := h
    refine ⟨base, len, cap, rfl, hs, by rw [hl, shrL_length], hc, (fun _ hn => nomatch hn), ?_⟩
    cases base with
    | none => exact ⟨h.1, rfl⟩
    | some a =>
      obtain ⟨hsp, vs, G, hR, hcell, hk⟩ := h
      have hGF : ∀ b ∈ G, b ∈ F := by
        cases k with
        | none => intro b hb; rw [hk.1] at hb; cases hb
        | some n => intro b hb; rw [hk.2.1]; exact List.mem_cons_of_mem _ hb
      refine ⟨fun hn => hsp (.inr (by
        rcases hn with h | h
        · exact absurd rfl h
        · intro h0; subst h0; exact h rfl)), vs, [], RepL.shr cs vs G hR hA (fun b hb => hF b (hGF b hb)), hcell, rfl, rfl, fun hn => ?_⟩
      cases k with
      | none =>
        refine hA _ (hk.2.2 ?_)
        intro h0; subst h0; exact hn rfl
      | some n => exact hF _ (by rw [hk.2.1]; exact List.mem_cons_self)
theorem RepL.shr {w : World} {A A' : Nat → Prop} {hv : Nat → Value} : ∀ (cs : List Cell) (vs : List Value) (F : List Nat), RepL w A hv cs vs F → (∀ b, A b → A' b) → (∀ b ∈ F, A' b) → RepL w A' hv (shrL cs) vs []
  | [], vs, F, h, _, _ => ⟨h.1, rfl⟩
  | c :: cs, vs, F, h, hA, hF => by
    obtain ⟨v, us, F1, F2, rfl, rfl, h1, h2⟩ := h
    exact ⟨v, us, [], [], rfl, rfl, Rep.shr c v F1 h1 hA (fun b hb => hF b (List.mem_append.2 (.inl hb))), RepL.shr cs us F2 h2 hA (fun b hb => hF b (List.mem_append.2 (.inr hb)))⟩
theorem shrL_length : ∀ (cs : List Cell), (shrL cs).length = cs.length
  | [] => rfl
  | c :: cs => by simp [shrL, shrL_length cs]
end

mutual
/-- What is nobody else's holds whatever may be read. -/
theorem Rep.pure {w : World} {A A' : Nat → Prop} {hv : Nat → Value} : ∀ (c : Cell) (v : Value) (F : List Nat), Rep w A hv c v F → pure1 c = true → Rep w A' hv c v F
  | .hole, v, F, h, _ => h
  | .sc u, v, F, h, _ => h
  | .sl k s cs, v, F, h, hp => by
    obtain ⟨base, len, cap, rfl, hs, hl, hc, hm, h⟩ := h
    simp only [pure1, Bool.and_eq_true] at hp
    refine ⟨base, len, cap, rfl, hs, hl, hc, hm, ?_⟩
    cases base with
    | none => exact h
    | some a =>
      obtain ⟨hsp, vs, G, hR, hcell, hk⟩ := h
      refine ⟨hsp, vs, G, RepL.pure cs vs G hR hp.2, hcell, ?_⟩
      cases k with
      | none =>
        refine ⟨hk.1, hk.2.1, fun hn => ?_⟩
        simp at hp
        exact absurd hp.1 hn
      | some n => exact hk
theorem RepL.pure {w : World} {A A' : Nat → Prop} {hv : Nat → Value} : ∀ (cs : List Cell) (vs : List Value) (F : List Nat), RepL w A hv cs vs F → pureL cs = true → RepL w A' hv cs vs F
  | [], vs, F, h, _ => h
  | c :: cs, vs, F, h, hp => by
    obtain ⟨v, us, F1, F2, rfl, rfl, h1, h2⟩ := h
    simp only [pureL, Bool.and_eq_true] at hp
    exact ⟨v, us, F1, F2, rfl, rfl, Rep.pure c v F1 h1 hp.1, RepL.pure cs us F2 h2 hp.2⟩
end

def mutFree : Option Nat → Bool
  | some (_ + 1) => false
  | _ => true
mutual
/-- Nothing in it was lent by the caller. -/
def noMut : Cell → Bool
  | .hole => true
  | .sc _ => true
  | .sl k _ cs => mutFree k && noMutL cs
def noMutL : List Cell → Bool
  | [] => true
  | c :: cs => noMut c && noMutL cs
end
mutual
theorem Rep.hv {w : World} {A : Nat → Prop} {hv hv' : Nat → Value} : ∀ (c : Cell) (v : Value) (F : List Nat), Rep w A hv c v F → noMut c = true → Rep w A hv' c v F
  | .hole, v, F, h, _ => h
  | .sc u, v, F, h, _ => h
  | .sl k s cs, v, F, h, hp => by
    obtain ⟨base, len, cap, rfl, hs, hl, hc, hm, h⟩ := h
    simp only [noMut, Bool.and_eq_true] at hp
    refine ⟨base, len, cap, rfl, hs, hl, hc, fun n hn => ?_, ?_⟩
    · subst hn; simp [mutFree] at hp
    cases base with
    | none => exact h
    | some a =>
      obtain ⟨hsp, vs, G, hR, hcell, hk⟩ := h
      exact ⟨hsp, vs, G, RepL.hv cs vs G hR hp.2, hcell, hk⟩
theorem RepL.hv {w : World} {A : Nat → Prop} {hv hv' : Nat → Value} : ∀ (cs : List Cell) (vs : List Value) (F : List Nat), RepL w A hv cs vs F → noMutL cs = true → RepL w A hv' cs vs F
  | [], vs, F, h, _ => h
  | c :: cs, vs, F, h, hp => by
    obtain ⟨v, us, F1, F2, rfl, rfl, h1, h2⟩ := h
    simp only [noMutL, Bool.and_eq_true] at hp
    exact ⟨v, us, F1, F2, rfl, rfl, Rep.hv c v F1 h1 hp.1, RepL.hv cs us F2 h2 hp.2⟩
end
mutual
theorem noMut_cpy : ∀ (c : Cell), cpy c = true → noMut c = true
  | .hole, _ => rfl
  | .sc _, _ => rfl
  | .sl k s cs, h => by
    simp only [cpy, Bool.and_eq_true] at h
    cases k with
    | none => simp only [noMut, mutFree, noMut_cpyL cs h.2, Bool.and_self]
    | some n => simp at h
theorem noMut_cpyL : ∀ (cs : List Cell), cpyL cs = true → noMutL cs = true
  | [], _ => rfl
  | c :: cs, h => by
    simp only [cpyL, Bool.and_eq_true] at h
    simp only [noMutL, noMut_cpy c h.1, noMut_cpyL cs h.2, Bool.and_self]
end
mutual
theorem cpy_shr : ∀ (c : Cell), cpy (shr c) = true
  | .hole => rfl
  | .sc _ => rfl
  | .sl k s cs => by simp only [shr, cpy, cpy_shrL cs, Option.isNone_none, Bool.and_self]
theorem cpy_shrL : ∀ (cs : List Cell), cpyL (shrL cs) = true
  | [] => rfl
  | c :: cs => by simp only [shrL, cpyL, cpy_shr c, cpy_shrL cs, Bool.and_self]
end

end Go.Proofs.Ytppfilhlblnmcaa.Abs
/- An abstract machine for the walks, part 2: the state of a call without addresses, and what it means that a frame and a memory are in it. No condition. -/
set_option linter.unusedVariables false
namespace Go.Proofs.Ytppfilhlblnmcaa.Abs
open Go

section
variable {α : Type}
/-- A small table by number. -/
def lk : List (Nat × α) → Nat → Option α
  | [], _ => none
  | (a, x) :: r, k => if a = k then some x else lk r k
def ins : List (Nat × α) → Nat → α → List (Nat × α)
  | [], k, x => [(k, x)]
  | (a, y) :: r, k, x => if k < a then (k, x) :: (a, y) :: r else if a = k then (k, x) :: r else (a, y) :: ins r k x
def del : List (Nat × α) → Nat → List (Nat × α)
  | [], _ => []
  | (a, y) :: r, k => if a = k then del r k else (a, y) :: del r k
theorem lk_ins (l : List (Nat × α)) (k j : Nat) (x : α) : lk (ins l k x) j = if k = j then some x else lk l j := by
  induction l with
  | nil => rfl
  | cons p r ih =>
    obtain ⟨a, y⟩ := p
    simp only [ins]
    split
    · simp only [lk]
    · split
      · rename_i h1 h2
        subst h2
        simp only [lk]
        by_cases h : a = j <;> simp [h]
      · rename_i h1 h2
        simp only [lk, ih]
        by_cases h : k = j
        · subst h
          simp [h2]
        · simp [h]
theorem lk_del (l : List (Nat × α)) (k j : Nat) : lk (del l k) j = if k = j then none else lk l j := by
  induction l with
  | nil => simp [del, lk]
  | cons p r ih =>
    obtain ⟨a, y⟩ := p
    simp only [del]
    split
    · rename_i h
      subst h
      simp only [lk, ih]
      by_cases h : a = j <;> simp [h]
    · rename_i h
      simp only [lk, ih]
      by_cases h2 : k = j
      · subst h2
        simp [h]
      · simp [h2]
end

/-- A variable that a closure captured: an object, or memory that stays. -/
inductive Cap where
  | ob (i : Nat)
  | ro (cs : List Cell)
/-- What a tmp may hold. An object is known by a number of its own. -/
inductive T where
  | dat (agg : Bool) (cs : List Cell)
  | tup (ts : List T)
  /-- an address: what lies there stays -/
  | dp (cs : List Cell)
  /-- the address of cell j: of the object's own row, or of row i of the slice in its cell c -/
  | pl (id : Nat) (q : Option (Nat × Nat)) (j : Nat)
  /-- a copy of the n cells from j on: their arrays are the object's -/
  | bor (id : Nat) (q : Option (Nat × Nat)) (j n : Nat) (agg : Bool)
  | clo (f : FuncId) (cs : List Cap)

/-- An object: a variable in memory, or a value that owns arrays. -/
inductive Ob where
  | mem (cs : List Cell)
  | vir (cs : List Cell)
def Ob.cells : Ob → List Cell
  | .mem cs => cs
  | .vir cs => cs

structure St where
  env : List (Nat × T)
  sg : List (Nat × Ob)

/-- Where an object lies. -/
inductive Loc where
  | blk (b : Nat)
  | vals (vs : List Value)

/-- Where a row of cells lies. -/
inductive Src where
  | mem (b o : Nat)
  | vals (vs : List Value)
def rd (w : World) : Src → Nat → Option Value
  | .mem b o, j => w.cell? ⟨b, o + j, none⟩
  | .vals vs, j => vs[j]?
def Loc.src : Loc → Src
  | .blk b => .mem b 0
  | .vals vs => .vals vs

def row : Option (Nat × Nat) → List Cell → Option (List Cell)
  | none, cs => some cs
  | some (c, i), cs => match cs[c]? with
    | some (.sl (some _) s ds) => if (i + 1) * s ≤ ds.length then some ((ds.drop (i * s)).take s) else none
    | _ => none
def setRow : Option (Nat × Nat) → List Cell → List Cell → List Cell
  | none, _, rs => rs
  | some (c, i), cs, rs => match cs[c]? with
    | some (.sl k s ds) => cs.set c (.sl k s (ds.take (i * s) ++ rs ++ ds.drop ((i + 1) * s)))
    | _ => cs
/-- Cells j to j + n turned. -/
def over (cs : List Cell) (j : Nat) (ds : List Cell) : List Cell := cs.take j ++ ds ++ cs.drop (j + ds.length)

def SrcIs (w : World) (l : Loc) (cs : List Cell) : Option (Nat × Nat) → Src → Prop
  | none, s => s = l.src
  | some (c, i), s => ∃ k st ds a len cap, cs[c]? = some (.sl (some k) st ds) ∧ rd w l.src c = some (.slice (some a) len cap) ∧ s = .mem a.block (i * st)

def mkv : Bool → List Value → Value → Prop
  | true, vs, v => v = .agg vs.toArray
  | false, vs, v => vs = [v]

/-- An address where these cells lie, and stay. -/
def DPRep (w : World) (A : Nat → Prop) (hv : Nat → Value) (cs : List Cell) (v : Value) : Prop := ∃ a vs, v = .pointer (some a) ∧ a.spot = none ∧ cpyL cs = true ∧ RepL w A hv cs vs [] ∧ (∀ (i : Nat) u, vs[i]? = some u → w.cell? ⟨a.block, a.off + i, none⟩ = some u) ∧ (cs ≠ [] → A a.block)
/-- Closures' captured variables. -/
def caps (w : World) (A : Nat → Prop) (hv : Nat → Value) (L : Nat → Loc) (sg : List (Nat × Ob)) : List Cap → List Value → Prop
  | [], vs => vs = []
  | .ob i :: r, vs => ∃ b us, vs = .pointer (some ⟨b, 0, none⟩) :: us ∧ (∀ cs, lk sg i = some (.mem cs) → L i = .blk b) ∧ caps w A hv L sg r us
  | .ro cs :: r, vs => ∃ v us, vs = v :: us ∧ DPRep w A hv cs v ∧ caps w A hv L sg r us
def capIds : List Cap → List Nat
  | [] => []
  | .ob i :: r => i :: capIds r
  | .ro _ :: r => capIds r

def RepU (w : World) (A : Nat → Prop) (hv : Nat → Value) (L : Nat → Loc) (sg : List (Nat × Ob)) : T → Value → Prop
  | .dat g cs, v => cpyL cs = true ∧ ∃ vs, RepL w A hv cs vs [] ∧ mkv g vs v
  | .tup _, _ => False
  | .dp cs, v => DPRep w A hv cs v
  | .pl id q j, v => ∀ ob, lk sg id = some ob → ∀ rs, row q ob.cells = some rs → ∃ b o, SrcIs w (L id) ob.cells q (.mem b o) ∧ v = .pointer (some ⟨b, o + j, none⟩)
  | .bor id q j n g, v => ∀ ob, lk sg id = some ob → ∀ rs, row q ob.cells = some rs → j + n ≤ rs.length → ∃ s vs, SrcIs w (L id) ob.cells q s ∧ vs.length = n ∧ (∀ i, i < n → rd w s (j + i) = vs[i]?) ∧ mkv g vs v
  | .clo f cs, v => ∃ us, v = .func (.func f) #[] us.toArray ∧ caps w A hv L sg cs us

def RepT (w : World) (A : Nat → Prop) (hv : Nat → Value) (L : Nat → Loc) (sg : List (Nat × Ob)) : T → Value → Prop
  | .tup ts, v => ∃ vs, v = .tuple vs ∧ vs.size = ts.length ∧ ∀ (i : Nat) t u, ts[i]? = some t → vs[i]? = some u → RepU w A hv L sg t u
  | t, v => RepU w A hv L sg t v

def ObRep (w : World) (A : Nat → Prop) (hv : Nat → Value) : Loc → Ob → List Nat → Prop
  | .blk b, .mem cs, F => ∃ c e g, w.heap[b]? = some (.cells c e (0, 0)) ∧ RepL w A hv cs c.toList g ∧ F = b :: g
  | .vals vs, .vir cs, F => RepL w A hv cs vs F
  | _, _, _ => False

/-- What a call came with. -/
structure Cx where
  P : Program
  fid : FuncId
  nt : Nat
  w0 : World
  F0 : Nat → Prop
  A0 : Nat → Prop
  hv : Nat → Value
  vs : List Value
  fx : List Nat
  post : Value → World → Prop

/-- The objects that it speaks of. -/
def refU : T → List Nat
  | .pl id _ _ => [id]
  | .bor id _ _ _ _ => [id]
  | .clo _ cs => capIds cs
  | _ => []
def refs : T → List Nat
  | .tup ts => (ts.map refU).flatten
  | t => refU t

def Cx.A (C : Cx) (G : Nat → List Nat) (b : Nat) : Prop := (C.A0 b ∨ C.w0.heap.size ≤ b) ∧ ∀ i, b ∉ G i

/-- Outside p the world w' is as w was; memory has at most grown. -/
structure Ext (p : Nat → Prop) (w w' : World) : Prop where
  os : w'.os = w.os
  tape : w'.tape = w.tape
  output : w'.output = w.output
  size : w.heap.size ≤ w'.heap.size
  block : ∀ b, b < w.heap.size → ¬ p b → w'.heap[b]? = w.heap[b]?
def No (_ : Nat) : Prop := False
theorem Ext.refl (p : Nat → Prop) (w : World) : Ext p w w := ⟨rfl, rfl, rfl, Nat.le_refl _, fun _ _ _ => rfl⟩
theorem Ext.trans {p q : Nat → Prop} {w w' w'' : World} (h : Ext p w w') (k : Ext q w' w'') (hq : ∀ b, b < w.heap.size → q b → p b) : Ext p w w'' :=
  ⟨k.os.trans h.os, k.tape.trans h.tape, k.output.trans h.output, Nat.le_trans h.size k.size, fun b hb hp => (k.block b (Nat.lt_of_lt_of_le hb h.size) (fun hc => hp (hq b hb hc))).trans (h.block b hb hp)⟩
theorem Ext.old {w w' : World} (h : Ext No w w') : ∀ b, b < w.heap.size → w'.heap[b]? = w.heap[b]? := fun b hb => h.block b hb id

structure Sim (C : Cx) (X : St) (a : Act) (w : World) (L : Nat → Loc) (G : Nat → List Nat) : Prop where
  ob : ∀ i o, lk X.sg i = some o → ObRep w (C.A G) C.hv (L i) o (G i)
  no : ∀ i, lk X.sg i = none → G i = []
  nd : ∀ i, (G i).Nodup
  dj : ∀ i j b, b ∈ G i → b ∈ G j → i = j
  own : ∀ i b, b ∈ G i → C.F0 b ∨ C.w0.heap.size ≤ b
  en : ∀ t x, lk X.env t = some x → RepT w (C.A G) C.hv L X.sg x (a.tmps.getD t undef)
  rf : ∀ t x, lk X.env t = some x → ∀ i ∈ refs x, lk X.sg i ≠ none
  fr : Ext C.F0 C.w0 w
  df : a.defers = []
  fx : ∀ i ∈ C.fx, a.tmps.getD i undef = C.vs.getD i undef
  nt : a.tmps.size = C.nt

theorem ObRep.lt {w : World} {A : Nat → Prop} {hv : Nat → Value} {l : Loc} {o : Ob} {F : List Nat} (h : ObRep w A hv l o F) : ∀ b ∈ F, b < w.heap.size := by
  intro b hb
  cases l with
  | blk c => cases o with
    | mem cs =>
      obtain ⟨d, e, g, h1, h2, rfl⟩ := h
      rcases List.mem_cons.1 hb with rfl | hb
      · exact (Array.getElem?_eq_some_iff.1 h1).1
      · exact RepL.lt _ _ _ h2 b hb
    | vir cs => exact h.elim
  | vals vs => cases o with
    | mem cs => exact h.elim
    | vir cs => exact RepL.lt _ _ _ h b hb

theorem ObRep.frame {w w' : World} {A A' : Nat → Prop} {hv : Nat → Value} {l : Loc} {o : Ob} {F : List Nat} (h : ObRep w A hv l o F) (hf : ∀ b, b < w.heap.size → (A b ∨ b ∈ F) → w'.heap[b]? = w.heap[b]?) (hA : ∀ b, b < w.heap.size → A b → A' b) : ObRep w' A' hv l o F := by
  cases l with
  | blk c => cases o with
    | mem cs =>
      obtain ⟨d, e, g, h1, h2, rfl⟩ := h
      refine ⟨d, e, g, ?_, RepL.frame _ _ _ h2 (fun b hb hc => hf b hb (hc.imp id (List.mem_cons_of_mem _))) hA, rfl⟩
      rw [hf c (Array.getElem?_eq_some_iff.1 h1).1 (.inr List.mem_cons_self)]
      exact h1
    | vir cs => exact h.elim
  | vals vs => cases o with
    | mem cs => exact h.elim
    | vir cs => exact RepL.frame _ _ _ h hf hA

/-- The root row of an object: its values, and where they lie. -/
theorem ObRep.root {w : World} {A : Nat → Prop} {hv : Nat → Value} {l : Loc} {o : Ob} {F : List Nat} (h : ObRep w A hv l o F) : ∃ vs g, RepL w A hv o.cells vs g ∧ (∀ (i : Nat) u, vs[i]? = some u → rd w l.src i = some u) ∧ (∀ b ∈ g, b ∈ F) ∧ (∀ b, l = .blk b → b ∈ F) := by
  cases l with
  | blk c => cases o with
    | mem cs =>
      obtain ⟨d, e, g, h1, h2, rfl⟩ := h
      refine ⟨d.toList, g, h2, fun i u hi => ?_, fun b hb => List.mem_cons_of_mem _ hb, fun b hb => by cases hb; exact List.mem_cons_self⟩
      simp only [Loc.src, rd, World.cell?, h1, Nat.zero_add]
      simpa using hi
    | vir cs => exact h.elim
  | vals vs => cases o with
    | mem cs => exact h.elim
    | vir cs => exact ⟨vs, F, h, fun i u hi => hi, fun b hb => hb, fun b hb => by cases hb⟩

end Go.Proofs.Ytppfilhlblnmcaa.Abs
/- An abstract machine for the walks, part 3: the state stays true while memory grows, while a slot is written, while objects come, move and turn. No condition. -/
set_option linter.unusedVariables false
namespace Go.Proofs.Ytppfilhlblnmcaa.Abs
open Go

/-- Of ob' no more is known than of ob. -/
def Wk (o' o : Ob) : Prop := ∀ q rs', row q o'.cells = some rs' → ∃ rs, row q o.cells = some rs ∧ rs'.length = rs.length ∧ ∀ w l s, SrcIs w l o.cells q s → SrcIs w l o'.cells q s
theorem Wk.refl (o : Ob) : Wk o o := fun q rs h => ⟨rs, h, rfl, fun _ _ _ h => h⟩

/-- What lies at a place of an object stays, where its blocks do. -/
theorem SrcIs.keep {w w' : World} {A : Nat → Prop} {hv : Nat → Value} {l : Loc} {o : Ob} {F : List Nat} {q : Option (Nat × Nat)} {s : Src} (ho : ObRep w A hv l o F) (hF : ∀ b ∈ F, w'.heap[b]? = w.heap[b]?) (h : SrcIs w l o.cells q s) :
    SrcIs w' l o.cells q s ∧ ∀ i u, rd w s i = some u → rd w' s i = some u := by
  obtain ⟨vs, g, hR, hrd, hg, hb⟩ := ho.root
  have hroot : ∀ i u, rd w l.src i = some u → rd w' l.src i = some u := by
    intro i u hi
    cases l with
    | blk b =>
      simp only [Loc.src, rd] at hi ⊢
      rw [cell_congr (hF b (hb b rfl))]
      exact hi
    | vals us => exact hi
  cases q with
  | none =>
    refine ⟨h, ?_⟩
    cases h
    exact hroot
  | some ci =>
    obtain ⟨c, i⟩ := ci
    obtain ⟨k, st, ds, a, len, cap, hc, hh, rfl⟩ := h
    refine ⟨⟨k, st, ds, a, len, cap, hc, hroot _ _ hh, rfl⟩, ?_⟩
    -- the array is the object's
    have ha : a.block ∈ F := by
      have hlen := RepL.length hR
      have hlt : c < vs.length := by rw [hlen]; exact (List.getElem?_eq_some_iff.1 hc).1
      have h1 := hrd c vs[c] (List.getElem?_eq_getElem hlt)
      rw [hh] at h1
      have hv : vs[c] = .slice (some a) len cap := by simpa using h1.symm
      have hsp : o.cells = o.cells.take c ++ (Cell.sl (some k) st ds :: o.cells.drop (c + 1)) := by
        rw [← (List.getElem?_eq_some_iff.1 hc).2]
        simp
      rw [hsp] at hR
      obtain ⟨v1, v2, F1, F2, rfl, rfl, r1, r2⟩ := RepL.split hR
      obtain ⟨v, us, F3, F4, rfl, rfl, r3, r4⟩ := r2
      have hl1 : v1.length = c := by
        rw [RepL.length r1, List.length_take]
        have := (List.getElem?_eq_some_iff.1 hc).1
        omega
      have hvv : v = .slice (some a) len cap := by
        rw [← hv]
        simp [List.getElem_append_right, hl1]
      subst hvv
      obtain ⟨base, len', cap', he, _, _, _, _, hx⟩ := r3
      cases he
      obtain ⟨_, us', G, _, _, _, hF3, _⟩ := hx
      exact hg _ (by rw [hF3]; simp)
    intro j u hj
    simp only [rd] at hj ⊢
    rw [cell_congr (hF a.block ha)]
    exact hj

theorem DPRep.frame {w w' : World} {A A' : Nat → Prop} {hv : Nat → Value} {cs : List Cell} {v : Value} (hA : ∀ b, b < w.heap.size → A b → A' b ∧ w'.heap[b]? = w.heap[b]?) (h : DPRep w A hv cs v) : DPRep w' A' hv cs v := by
  obtain ⟨a, vs, rfl, hs, hc, hR, hcell, ha⟩ := h
  refine ⟨a, vs, rfl, hs, hc, RepL.frame _ _ _ hR (fun b hb h => (h.elim (fun h => (hA b hb h).2) (fun h => by cases h))) (fun b hb h => (hA b hb h).1), fun i u hi => ?_, fun hn => ?_⟩
  · have h1 := hcell i u hi
    have hne : cs ≠ [] := by
      intro hn
      subst hn
      rw [hR.1] at hi
      simp at hi
    rw [cell_congr (hA a.block (cell_some_lt (a := ⟨a.block, a.off + i, none⟩) h1) (ha hne)).2]
    exact h1
  · obtain ⟨c0, rest, rfl⟩ := List.exists_cons_of_ne_nil hn
    obtain ⟨v0, us, F1, F2, rfl, _, _, _⟩ := hR
    exact (hA a.block (cell_some_lt (a := ⟨a.block, a.off + 0, none⟩) (hcell 0 v0 rfl)) (ha hn)).1

theorem caps.frame {w w' : World} {A A' : Nat → Prop} {hv : Nat → Value} {L L' : Nat → Loc} {sg sg' : List (Nat × Ob)} (hA : ∀ b, b < w.heap.size → A b → A' b ∧ w'.heap[b]? = w.heap[b]?) : ∀ (cs : List Cap) (us : List Value), (∀ i ∈ capIds cs, ∀ x, lk sg' i = some (.mem x) → ∃ y, lk sg i = some (.mem y) ∧ L' i = L i) → caps w A hv L sg cs us → caps w' A' hv L' sg' cs us
  | [], us, _, h => h
  | .ob i :: r, us, hi, h => by
    obtain ⟨b, us', rfl, hb, hr⟩ := h
    refine ⟨b, us', rfl, fun x hx => ?_, caps.frame hA r us' (fun j hj => hi j (List.mem_cons_of_mem _ hj)) hr⟩
    obtain ⟨y, h1, h2⟩ := hi i List.mem_cons_self x hx
    rw [h2]
    exact hb y h1
  | .ro cs :: r, us, hi, h => by
    obtain ⟨v, us', rfl, hv, hr⟩ := h
    exact ⟨v, us', rfl, hv.frame hA, caps.frame hA r us' hi hr⟩

theorem RepU.frame {w w' : World} {A A' : Nat → Prop} {hv : Nat → Value} {L L' : Nat → Loc} {sg sg' : List (Nat × Ob)} {G : Nat → List Nat} (hA : ∀ b, b < w.heap.size → A b → A' b ∧ w'.heap[b]? = w.heap[b]?)
    (hG : ∀ i o, lk sg i = some o → ObRep w A hv (L i) o (G i)) : ∀ (t : T) (v : Value), RepU w A hv L sg t v →
    (∀ i ∈ refU t, ∀ o', lk sg' i = some o' → ∃ o, lk sg i = some o ∧ L' i = L i ∧ (∀ cs', o' = .mem cs' → ∃ cs, o = .mem cs) ∧ ((∃ j, t = .pl i none j) ∨ (∃ f ids, t = .clo f ids) ∨ (Wk o' o ∧ ∀ b ∈ G i, w'.heap[b]? = w.heap[b]?))) → RepU w' A' hv L' sg' t v
  | .dat g cs, v, h, _ => by
    obtain ⟨hc, vs, hR, hm⟩ := h
    exact ⟨hc, vs, RepL.frame _ _ _ hR (fun b hb h => (h.elim (fun h => (hA b hb h).2) (fun h => by cases h))) (fun b hb h => (hA b hb h).1), hm⟩
  | .tup _, v, h, _ => h
  | .dp cs, v, h, _ => DPRep.frame hA h
  | .pl id q j, v, h, hr => by
    intro o' ho' rs' hrs'
    obtain ⟨o, ho, hL, _, hk⟩ := hr id (by simp [refU]) o' ho'
    rcases hk with ⟨_, hk⟩ | ⟨f, ids, hk⟩ | ⟨hw, hb⟩
    · cases hk
      obtain ⟨b, n, h1, h2⟩ := h o ho o.cells rfl
      exact ⟨b, n, by rw [hL]; exact h1, h2⟩
    · cases hk
    · obtain ⟨rs, hrs, _, hs⟩ := hw q rs' hrs'
      obtain ⟨b, n, h1, h2⟩ := h o ho rs hrs
      exact ⟨b, n, by rw [hL]; exact hs _ _ _ (SrcIs.keep (hG id o ho) hb h1).1, h2⟩
  | .bor id q j n g, v, h, hr => by
    intro o' ho' rs' hrs' hjn
    obtain ⟨o, ho, hL, _, hk⟩ := hr id (by simp [refU]) o' ho'
    rcases hk with ⟨_, hk⟩ | ⟨f, ids, hk⟩ | ⟨hw, hb⟩
    · cases hk
    · cases hk
    · obtain ⟨rs, hrs, hlen, hs⟩ := hw q rs' hrs'
      obtain ⟨s, vs, h1, h2, h3, h4⟩ := h o ho rs hrs (by omega)
      obtain ⟨k1, k2⟩ := SrcIs.keep (hG id o ho) hb h1
      refine ⟨s, vs, by rw [hL]; exact hs _ _ _ k1, h2, fun i hi => ?_, h4⟩
      have h5 := h3 i hi
      rw [List.getElem?_eq_getElem (by omega)] at h5 ⊢
      exact k2 _ _ h5
  | .clo f cs, v, h, hr => by
    obtain ⟨us, rfl, hc⟩ := h
    refine ⟨us, rfl, caps.frame hA cs us (fun i hi x hx => ?_) hc⟩
    obtain ⟨o, ho, hL, hm, _⟩ := hr i hi _ hx
    obtain ⟨y, rfl⟩ := hm x rfl
    exact ⟨y, ho, hL⟩

theorem RepT.frame {w w' : World} {A A' : Nat → Prop} {hv : Nat → Value} {L L' : Nat → Loc} {sg sg' : List (Nat × Ob)} {G : Nat → List Nat} (hA : ∀ b, b < w.heap.size → A b → A' b ∧ w'.heap[b]? = w.heap[b]?)
    (hG : ∀ i o, lk sg i = some o → ObRep w A hv (L i) o (G i)) (t : T) (v : Value) (h : RepT w A hv L sg t v)
    (hr : ∀ i ∈ refs t, ∀ o', lk sg' i = some o' → ∃ o, lk sg i = some o ∧ L' i = L i ∧ (∀ cs', o' = .mem cs' → ∃ cs, o = .mem cs) ∧ ((∃ j, t = .pl i none j) ∨ (∃ f ids, t = .clo f ids) ∨ (Wk o' o ∧ ∀ b ∈ G i, w'.heap[b]? = w.heap[b]?))) : RepT w' A' hv L' sg' t v := by
  cases t with
  | tup ts =>
    obtain ⟨vs, rfl, hl, hk⟩ := h
    refine ⟨vs, rfl, hl, fun i t u ht hu => RepU.frame hA hG t u (hk i t u ht hu) (fun j hj o' ho' => ?_)⟩
    obtain ⟨o, h1, h2, h3, h4⟩ := hr j (by
      simp only [refs, List.mem_flatten, List.mem_map]
      exact ⟨refU t, ⟨t, List.mem_of_getElem? ht, rfl⟩, hj⟩) o' ho'
    refine ⟨o, h1, h2, h3, ?_⟩
    rcases h4 with ⟨_, h4⟩ | ⟨_, _, h4⟩ | h4
    · cases h4
    · cases h4
    · exact .inr (.inr h4)
  | dat g cs => exact RepU.frame hA hG (.dat g cs) v h hr
  | dp cs => exact RepU.frame hA hG (.dp cs) v h hr
  | pl id q j => exact RepU.frame hA hG (.pl id q j) v h hr
  | bor id q j n g => exact RepU.frame hA hG (.bor id q j n g) v h hr
  | clo f ids => exact RepU.frame hA hG (.clo f ids) v h hr

section
variable {C : Cx} {X : St} {a : Act} {w w' : World} {L : Nat → Loc} {G : Nat → List Nat}

/-- Memory may grow. -/
theorem Sim.ext (h : Sim C X a w L G) (he : Ext No w w') : Sim C X a w' L G where
  ob i o ho := (h.ob i o ho).frame (fun b hb _ => he.old b hb) (fun _ _ h => h)
  no := h.no
  nd := h.nd
  dj := h.dj
  own := h.own
  en t x hx := RepT.frame (fun b hb hA => ⟨hA, he.old b hb⟩) h.ob x _ (h.en t x hx) (fun i _ o ho => ⟨o, ho, rfl, fun cs e => ⟨cs, e⟩, .inr (.inr ⟨.refl o, fun b hb => he.old b ((h.ob i o ho).lt b hb)⟩)⟩)
  rf := h.rf
  fr := h.fr.trans he (fun _ _ h => h.elim)
  df := h.df
  fx := h.fx
  nt := h.nt

/-- A slot is written. -/
theorem Sim.put (h : Sim C X a w L G) {d : Nat} {x : T} {v : Value} (hd : d < C.nt) (hfx : d ∉ C.fx) (hx : RepT w (C.A G) C.hv L X.sg x v) (hr : ∀ i ∈ refs x, lk X.sg i ≠ none) : Sim C { X with env := ins X.env d x } (a.put (some d) v) w L G where
  ob := h.ob
  no := h.no
  nd := h.nd
  dj := h.dj
  own := h.own
  en t y hy := by
    rw [lk_ins] at hy
    by_cases e : d = t
    · subst e
      rw [if_pos rfl] at hy
      cases hy
      have hlt : d < a.tmps.size := by rw [h.nt]; exact hd
      simp only [Act.put, Array.getD_eq_getD_getElem?, Array.getElem?_setIfInBounds_self_of_lt hlt, Option.getD_some]
      exact hx
    · rw [if_neg e] at hy
      simp only [Act.put, Array.getD_eq_getD_getElem?, Array.getElem?_setIfInBounds_ne e]
      have := h.en t y hy
      rwa [Array.getD_eq_getD_getElem?] at this
  rf t y hy i hi := by
    rw [lk_ins] at hy
    by_cases e : d = t
    · subst e
      rw [if_pos rfl] at hy
      cases hy
      exact hr i hi
    · rw [if_neg e] at hy
      exact h.rf t y hy i hi
  fr := h.fr
  df := h.df
  fx i hi := by
    have e : d ≠ i := fun e => hfx (e ▸ hi)
    simp only [Act.put, Array.getD_eq_getD_getElem?, Array.getElem?_setIfInBounds_ne e]
    have := h.fx i hi
    rwa [Array.getD_eq_getD_getElem?] at this
  nt := by simp only [Act.put, Array.size_setIfInBounds]; exact h.nt

/-- Less may be told. -/
theorem Sim.less (h : Sim C X a w L G) {env : List (Nat × T)} (he : ∀ t x, lk env t = some x → lk X.env t = some x) : Sim C { X with env := env } a w L G :=
  { h with en := fun t x hx => h.en t x (he t x hx), rf := fun t x hx => h.rf t x (he t x hx) }

/-- Nothing is told of a slot. -/
theorem Sim.hush (h : Sim C X a w L G) {d : Nat} (v : Value) (hfx : d ∉ C.fx) : Sim C { X with env := del X.env d } (a.put (some d) v) w L G where
  ob := h.ob
  no := h.no
  nd := h.nd
  dj := h.dj
  own := h.own
  en t y hy := by
    rw [lk_del] at hy
    by_cases e : d = t
    · rw [if_pos e] at hy; cases hy
    · rw [if_neg e] at hy
      simp only [Act.put, Array.getD_eq_getD_getElem?, Array.getElem?_setIfInBounds_ne e]
      have := h.en t y hy
      rwa [Array.getD_eq_getD_getElem?] at this
  rf t y hy i hi := by
    rw [lk_del] at hy
    by_cases e : d = t
    · rw [if_pos e] at hy; cases hy
    · rw [if_neg e] at hy
      exact h.rf t y hy i hi
  fr := h.fr
  df := h.df
  fx i hi := by
    have e : d ≠ i := fun e => hfx (e ▸ hi)
    simp only [Act.put, Array.getD_eq_getD_getElem?, Array.getElem?_setIfInBounds_ne e]
    have := h.fx i hi
    rwa [Array.getD_eq_getD_getElem?] at this
  nt := by simp only [Act.put, Array.size_setIfInBounds]; exact h.nt

def upd {α : Type} (f : Nat → α) (i : Nat) (x : α) (j : Nat) : α := if j = i then x else f j
theorem upd_self {α : Type} (f : Nat → α) (i : Nat) (x : α) : upd f i x i = x := by simp [upd]
theorem upd_ne {α : Type} (f : Nat → α) {i j : Nat} (x : α) (h : j ≠ i) : upd f i x j = f j := by simp [upd, h]

/-- An object turns, or a new one comes: its blocks are among those that it had, or new. -/
theorem Sim.chg (h : Sim C X a w L G) (i : Nat) (o' : Ob) (l' : Loc) (F' : List Nat) (hx : Ext (· ∈ G i) w w')
    (hF : F'.Nodup) (hFs : ∀ b ∈ F', b ∈ G i ∨ w.heap.size ≤ b)
    (ho : ObRep w' (C.A (upd G i F')) C.hv l' o' F')
    (hr : ∀ t x, lk X.env t = some x → i ∈ refs x → (∃ o, lk X.sg i = some o ∧ (∀ cs', o' = .mem cs' → ∃ cs, o = .mem cs)) ∧ l' = L i ∧ ((∃ j, x = .pl i none j) ∨ (∃ f ids, x = .clo f ids))) :
    Sim C { X with sg := ins X.sg i o' } a w' (upd L i l') (upd G i F') := by
  have hw := hx.block
  have hlt : ∀ b j, b ∈ G j → b < w.heap.size := by
    intro b j hb
    cases hj : lk X.sg j with
    | none => rw [h.no j hj] at hb; cases hb
    | some o => exact (h.ob j o hj).lt b hb
  have hA : ∀ b, b < w.heap.size → C.A G b → C.A (upd G i F') b := by
    intro b hb hA
    refine ⟨hA.1, fun j hj => ?_⟩
    by_cases e : j = i
    · subst e
      rw [upd_self] at hj
      rcases hFs b hj with h1 | h1
      · exact hA.2 _ h1
      · omega
    · rw [upd_ne G _ e] at hj
      exact hA.2 j hj
  have hAw : ∀ b, b < w.heap.size → C.A G b → w'.heap[b]? = w.heap[b]? := fun b hb hA => hw b hb (hA.2 i)
  have hother : ∀ j, j ≠ i → ∀ b ∈ G j, w'.heap[b]? = w.heap[b]? := fun j hj b hb => hw b (hlt b j hb) (fun hbi => hj (h.dj j i b hb hbi))
  refine { ob := ?_, no := ?_, nd := ?_, dj := ?_, own := ?_, en := ?_, rf := ?_, fr := ?_, df := h.df, fx := h.fx, nt := h.nt }
  · intro j o hj
    rw [lk_ins] at hj
    by_cases e : i = j
    · subst e
      rw [if_pos rfl] at hj
      cases hj
      rw [upd_self, upd_self]
      exact ho
    · rw [if_neg e] at hj
      rw [upd_ne L _ (Ne.symm e), upd_ne G _ (Ne.symm e)]
      exact (h.ob j o hj).frame (fun b hb hc => hc.elim (hAw b hb) (hother j (Ne.symm e) b)) hA
  · intro j hj
    rw [lk_ins] at hj
    by_cases e : i = j
    · subst e
      rw [if_pos rfl] at hj
      cases hj
    · rw [if_neg e] at hj
      rw [upd_ne G _ (Ne.symm e)]
      exact h.no j hj
  · intro j
    by_cases e : j = i
    · subst e; rw [upd_self]; exact hF
    · rw [upd_ne G _ e]; exact h.nd j
  · intro j k b hj hk
    by_cases e : j = i
    · by_cases e2 : k = i
      · rw [e, e2]
      · subst e
        rw [upd_self] at hj
        rw [upd_ne G _ e2] at hk
        rcases hFs b hj with h1 | h1
        · exact h.dj _ _ b h1 hk
        · have := hlt b k hk; omega
    · by_cases e2 : k = i
      · subst e2
        rw [upd_self] at hk
        rw [upd_ne G _ e] at hj
        rcases hFs b hk with h1 | h1
        · exact h.dj _ _ b hj h1
        · have := hlt b j hj; omega
      · rw [upd_ne G _ e] at hj
        rw [upd_ne G _ e2] at hk
        exact h.dj j k b hj hk
  · intro j b hj
    by_cases e : j = i
    · subst e
      rw [upd_self] at hj
      rcases hFs b hj with h1 | h1
      · exact h.own _ b h1
      · exact .inr (Nat.le_trans h.fr.size h1)
    · rw [upd_ne G _ e] at hj
      exact h.own j b hj
  · intro t x hx
    refine RepT.frame (fun b hb hc => ⟨hA b hb hc, hAw b hb hc⟩) h.ob x _ (h.en t x hx) (fun j hj o hoj => ?_)
    by_cases e : j = i
    · subst e
      rw [lk_ins, if_pos rfl] at hoj
      cases hoj
      obtain ⟨⟨o, h1, h2⟩, h3, h4⟩ := hr t x hx hj
      refine ⟨o, h1, by rw [upd_self, h3], h2, ?_⟩
      rcases h4 with h4 | h4
      · exact .inl h4
      · exact .inr (.inl h4)
    · rw [lk_ins, if_neg (Ne.symm e)] at hoj
      exact ⟨o, hoj, upd_ne L _ e, fun cs e => ⟨cs, e⟩, .inr (.inr ⟨.refl o, hother j e⟩)⟩
  · intro t x hx j hj
    show lk (ins X.sg i o') j ≠ none
    rw [lk_ins]
    by_cases e : i = j
    · rw [if_pos e]; simp
    · rw [if_neg e]; exact h.rf t x hx j hj
  · exact h.fr.trans hx (fun b hb hbi => (h.own i b hbi).elim id (fun h1 => by omega))

/-- A new object. -/
theorem Sim.new (h : Sim C X a w L G) (i : Nat) (hi : lk X.sg i = none) (o' : Ob) (l' : Loc) (F' : List Nat) (hx : Ext No w w') (hF : F'.Nodup) (hFs : ∀ b ∈ F', w.heap.size ≤ b)
    (ho : ObRep w' (C.A (upd G i F')) C.hv l' o' F') : Sim C { X with sg := ins X.sg i o' } a w' (upd L i l') (upd G i F') :=
  h.chg i o' l' F' ⟨hx.os, hx.tape, hx.output, hx.size, fun b hb _ => hx.old b hb⟩ hF (fun b hb => .inr (hFs b hb)) ho (fun t x hx hr => absurd hi (h.rf t x hx i hr))

end
end Go.Proofs.Ytppfilhlblnmcaa.Abs
/- An abstract machine for the walks, part 4: what is read at a place; the operations that turn nothing. No condition. -/
set_option linter.unusedVariables false
namespace Go.Proofs.Ytppfilhlblnmcaa.Abs
open Go

theorem SrcIs.uniq {w : World} {l : Loc} {cs : List Cell} {q : Option (Nat × Nat)} {s s' : Src} (h : SrcIs w l cs q s) (h' : SrcIs w l cs q s') : s = s' := by
  cases q with
  | none => rw [show s = _ from h, show s' = _ from h']
  | some ci =>
    obtain ⟨c, i⟩ := ci
    obtain ⟨k, st, ds, a, len, cap, h1, h2, rfl⟩ := h
    obtain ⟨k', st', ds', a', len', cap', h1', h2', rfl⟩ := h'
    rw [h1] at h1'
    cases h1'
    rw [h2] at h2'
    cases h2'
    rfl

theorem RepL.at {w : World} {A : Nat → Prop} {hv : Nat → Value} {cs : List Cell} {vs : List Value} {F : List Nat} (h : RepL w A hv cs vs F) {c : Nat} {x : Cell} (hc : cs[c]? = some x) :
    ∃ v v1 v2 F1 F2 F3, vs = v1 ++ v :: v2 ∧ v1.length = c ∧ vs[c]? = some v ∧ F = F1 ++ F2 ++ F3 ∧ RepL w A hv (cs.take c) v1 F1 ∧ Rep w A hv x v F2 ∧ RepL w A hv (cs.drop (c + 1)) v2 F3 := by
  obtain ⟨hlt, hx⟩ := List.getElem?_eq_some_iff.1 hc
  have hsp : cs = cs.take c ++ (x :: cs.drop (c + 1)) := by rw [← hx]; simp
  rw [hsp] at h
  obtain ⟨v1, v2, F1, F2, rfl, rfl, r1, r2⟩ := RepL.split h
  obtain ⟨v, us, F3, F4, rfl, rfl, r3, r4⟩ := r2
  have hl1 : v1.length = c := by
    rw [RepL.length r1, List.length_take]; omega
  exact ⟨v, v1, us, F1, F3, F4, rfl, hl1, by simp [hl1], by simp, r1, r3, r4⟩

theorem RepL.mid {w : World} {A : Nat → Prop} {hv : Nat → Value} {cs : List Cell} {vs : List Value} {F : List Nat} (h : RepL w A hv cs vs F) (j n : Nat) (hjn : j + n ≤ cs.length) :
    ∃ v1 us v3 F1 F2 F3, vs = v1 ++ us ++ v3 ∧ v1.length = j ∧ us.length = n ∧ F = F1 ++ F2 ++ F3 ∧ RepL w A hv (cs.take j) v1 F1 ∧ RepL w A hv ((cs.drop j).take n) us F2 ∧ RepL w A hv (cs.drop (j + n)) v3 F3 := by
  have hsp : cs = cs.take j ++ ((cs.drop j).take n ++ cs.drop (j + n)) := by
    rw [← List.drop_drop, List.take_append_drop, List.take_append_drop]
  rw [hsp] at h
  obtain ⟨v1, v2, F1, F2, rfl, rfl, r1, r2⟩ := RepL.split h
  obtain ⟨us, v3, G1, G2, rfl, rfl, r3, r4⟩ := RepL.split r2
  refine ⟨v1, us, v3, F1, G1, G2, by simp, ?_, ?_, by simp, r1, r3, r4⟩
  · rw [RepL.length r1, List.length_take]; omega
  · rw [RepL.length r3, List.length_take, List.length_drop]; omega

/-- A row of an object: where it lies, its values, and what of the object's blocks is in it. -/
theorem ObRep.place {w : World} {A : Nat → Prop} {hv : Nat → Value} {l : Loc} {o : Ob} {F : List Nat} (h : ObRep w A hv l o F) {q : Option (Nat × Nat)} {rs : List Cell} (hq : row q o.cells = some rs) :
    ∃ s vs F1 F2 F3, SrcIs w l o.cells q s ∧ RepL w A hv rs vs F2 ∧ F = F1 ++ F2 ++ F3 ∧ (∀ (i : Nat) u, vs[i]? = some u → rd w s i = some u) := by
  cases q with
  | none =>
    cases hq
    cases l with
    | blk b => cases o with
      | mem cs =>
        obtain ⟨d, e, g, h1, h2, rfl⟩ := h
        refine ⟨.mem b 0, d.toList, [b], g, [], rfl, h2, by simp, fun i u hi => ?_⟩
        simp only [rd, World.cell?, h1, Nat.zero_add]
        simpa using hi
      | vir cs => exact h.elim
    | vals vs => cases o with
      | mem cs => exact h.elim
      | vir cs => exact ⟨.vals vs, vs, [], F, [], rfl, h, by simp, fun i u hi => hi⟩
  | some ci =>
    obtain ⟨c, i⟩ := ci
    simp only [row] at hq
    split at hq
    · rename_i k s ds hc
      split at hq
      · rename_i hle
        cases hq
        -- the root
        have hroot : ∃ vs g H1, RepL w A hv o.cells vs g ∧ F = H1 ++ g ∧ (∀ (i : Nat) u, vs[i]? = some u → rd w l.src i = some u) := by
          cases l with
          | blk b => cases o with
            | mem cs =>
              obtain ⟨d, e, g, h1, h2, rfl⟩ := h
              refine ⟨d.toList, g, [b], h2, by simp, fun i u hi => ?_⟩
              simp only [Loc.src, rd, World.cell?, h1, Nat.zero_add]
              simpa using hi
            | vir cs => exact h.elim
          | vals vs => cases o with
            | mem cs => exact h.elim
            | vir cs => exact ⟨vs, F, [], h, by simp, fun i u hi => hi⟩
        obtain ⟨vs, g, H1, hR, rfl, hrd⟩ := hroot
        obtain ⟨v, v1, v2, F1, F2, F3, hvs, hl1, hcv, rfl, r1, r2, r3⟩ := RepL.at hR hc
        obtain ⟨base, len, cap, rfl, hs, hl, hcap, hm, hb⟩ := r2
        cases base with
        | none =>
          -- no array: then there is no row
          obtain ⟨rfl, _⟩ := hb
          have : ds.length = 0 := by rw [← hl]; have : len = 0 := by omega
                                     rw [this, Nat.zero_mul]
          have : (i + 1) * s = i * s + s := Nat.succ_mul i s
          omega
        | some a =>
          obtain ⟨hsp, us, G, hRL, hcell, ha0, rfl, c0, e0, hblk, hsz⟩ := hb
          have hle' : i * s + s ≤ ds.length := by rw [← Nat.succ_mul]; exact hle
          obtain ⟨u1, u2, u3, G1, G2, G3, rfl, hlu1, hlu2, rfl, k1, k2, k3⟩ := RepL.mid hRL (i * s) s hle'
          refine ⟨.mem a.block (i * s), u2, H1 ++ F1 ++ (a.block :: G1), G2, G3 ++ F3, ⟨k, s, ds, a, len, cap, hc, hrd c _ hcv, rfl⟩, k2, by simp, fun j u hj => ?_⟩
          have hlt : j < u2.length := (List.getElem?_eq_some_iff.1 hj).1
          have h5 := hcell (i * s + j) u (by
            rw [List.append_assoc, List.getElem?_append_right (by omega), hlu1, List.getElem?_append_left (by omega)]
            rw [show i * s + j - i * s = j by omega]
            exact hj)
          rw [ha0, Nat.zero_add] at h5
          exact h5
      · cases hq
    · cases hq

/-- What may be read at a place: the n cells from j on. -/
def cont (X : St) (id : Nat) (q : Option (Nat × Nat)) (j n : Nat) : Option (List Cell) :=
  match lk X.sg id with
  | none => none
  | some ob => match row q ob.cells with
    | none => none
    | some rs => if j + n ≤ rs.length then some ((rs.drop j).take n) else none

section
variable {C : Cx} {X : St} {a : Act} {w : World} {L : Nat → Loc} {G : Nat → List Nat}

theorem Sim.cont (h : Sim C X a w L G) {id : Nat} {q : Option (Nat × Nat)} {j n : Nat} {cs : List Cell} (hc : cont X id q j n = some cs) :
    ∃ ob rs s vs F1 F2 F3, lk X.sg id = some ob ∧ row q ob.cells = some rs ∧ j + n ≤ rs.length ∧ SrcIs w (L id) ob.cells q s ∧ vs.length = n ∧ RepL w (C.A G) C.hv cs vs F2 ∧ G id = F1 ++ F2 ++ F3 ∧ (∀ i, i < n → rd w s (j + i) = vs[i]?) := by
  unfold Abs.cont at hc
  split at hc
  · cases hc
  · rename_i ob ho
    split at hc
    · cases hc
    · rename_i rs hrs
      split at hc
      · rename_i hle
        cases hc
        obtain ⟨s, vs, F1, F2, F3, h1, h2, h3, h4⟩ := (h.ob id ob ho).place hrs
        obtain ⟨v1, us, v3, G1, G2, G3, rfl, hl1, hl2, rfl, r1, r2, r3⟩ := RepL.mid h2 j n hle
        refine ⟨ob, rs, s, us, F1 ++ G1, G2, G3 ++ F3, ho, hrs, hle, h1, hl2, r2, by rw [h3]; simp, fun i hi => ?_⟩
        rw [List.getElem?_eq_getElem (by omega)]
        refine h4 (j + i) _ ?_
        rw [List.append_assoc, List.getElem?_append_right (by omega), List.getElem?_append_left (by omega)]
        rw [show j + i - v1.length = i by omega]
        exact List.getElem?_eq_getElem _
      · cases hc

/-- What a copy of a place's cells is. -/
theorem Sim.bor (h : Sim C X a w L G) {id : Nat} {q : Option (Nat × Nat)} {j n : Nat} {g : Bool} {cs : List Cell} {v : Value} (hc : Abs.cont X id q j n = some cs) (hv : RepU w (C.A G) C.hv L X.sg (.bor id q j n g) v) :
    ∃ vs F1 F2 F3, RepL w (C.A G) C.hv cs vs F2 ∧ G id = F1 ++ F2 ++ F3 ∧ mkv g vs v ∧ vs.length = n := by
  obtain ⟨ob, rs, s, vs, F1, F2, F3, h1, h2, h3, h4, h5, h6, h7, h8⟩ := h.cont hc
  obtain ⟨s', vs', k1, k2, k3, k4⟩ := hv ob h1 rs h2 h3
  cases h4.uniq k1
  have : vs' = vs := by
    apply List.ext_getElem?
    intro i
    by_cases hi : i < n
    · rw [← k3 i hi, h8 i hi]
    · rw [List.getElem?_eq_none (by omega), List.getElem?_eq_none (by omega)]
  subst this
  exact ⟨vs', F1, F2, F3, h6, h7, k4, k2⟩

def look (X : St) : Operand → Option T
  | .tmp t => lk X.env t
  | .const (.slice none 0 0) => some (.dat false [.sl none 1 []])
  | .const (.bool b) => some (.dat false [.sc (.bool b)])
  | .const (.int k n) => some (.dat false [.sc (.int k n)])
  | .const (.string s) => some (.dat false [.sc (.string s)])
  | .const _ => none
  | .func f => some (.clo f [])
  | .global _ => none

theorem Sim.look (h : Sim C X a w L G) {x : Operand} {t : T} (hx : look X x = some t) : RepT w (C.A G) C.hv L X.sg t (a.eval x) ∧ ∀ i ∈ refs t, lk X.sg i ≠ none := by
  cases x with
  | tmp n => exact ⟨h.en n t hx, h.rf n t hx⟩
  | const v =>
    unfold Abs.look at hx
    split at hx
    · rename_i heq
      cases heq
    · rename_i heq
      cases heq
      cases hx
      exact ⟨⟨rfl, [.slice none 0 0], Rep.one ⟨none, 0, 0, rfl, by omega, rfl, Nat.le_refl _, (fun _ h => nomatch h), rfl, rfl⟩, rfl⟩, fun i hi => nomatch hi⟩
    · rename_i heq
      cases heq
      cases hx
      exact ⟨⟨rfl, [_], Rep.one ⟨rfl, rfl, rfl⟩, rfl⟩, fun i hi => nomatch hi⟩
    · rename_i heq
      cases heq
      cases hx
      exact ⟨⟨rfl, [_], Rep.one ⟨rfl, rfl, rfl⟩, rfl⟩, fun i hi => nomatch hi⟩
    · rename_i heq
      cases heq
      cases hx
      exact ⟨⟨rfl, [_], Rep.one ⟨rfl, rfl, rfl⟩, rfl⟩, fun i hi => nomatch hi⟩
    · cases hx
    · rename_i heq
      cases heq
    · cases hx
  | global g => cases hx
  | func f =>
    cases hx
    exact ⟨⟨[], rfl, rfl⟩, fun i hi => nomatch hi⟩

/-- A number, a text, a truth value that an operand is. -/
def scal (X : St) (x : Operand) : Option Value :=
  match look X x with
  | some (.dat false [.sc v]) => some v
  | _ => none
theorem Sim.scal (h : Sim C X a w L G) {x : Operand} {v : Value} (hx : scal X x = some v) : a.eval x = v ∧ flat v = true := by
  unfold Abs.scal at hx
  split at hx
  · rename_i u hl
    cases hx
    obtain ⟨⟨_, vs, hR, hm⟩, _⟩ := h.look hl
    cases hm
    have := RepL.one hR
    exact ⟨this.1, this.2.1⟩
  · cases hx

/-- A slice that an operand is: who owns it, the cells of an element, all cells. -/
def slc (X : St) (x : Operand) : Option (Option Nat × Nat × List Cell) :=
  match look X x with
  | some (.dat false [.sl k s cs]) => some (k, s, cs)
  | some (.bor id q j 1 false) => match cont X id q j 1 with
    | some [.sl k s cs] => some (k, s, cs)
    | _ => none
  | _ => none
theorem Sim.slc (h : Sim C X a w L G) {x : Operand} {k : Option Nat} {s : Nat} {cs : List Cell} (hx : slc X x = some (k, s, cs)) : ∃ F, Rep w (C.A G) C.hv (.sl k s cs) (a.eval x) F := by
  unfold Abs.slc at hx
  split at hx
  · rename_i k' s' cs' hl
    cases hx
    obtain ⟨⟨_, vs, hR, hm⟩, _⟩ := h.look hl
    cases hm
    exact ⟨_, RepL.one hR⟩
  · rename_i id q j hl
    split at hx
    · rename_i k' s' cs' hc
      cases hx
      obtain ⟨hb, _⟩ := h.look hl
      obtain ⟨vs, F1, F2, F3, hR, _, hm, _⟩ := h.bor hc hb
      cases hm
      exact ⟨_, RepL.one hR⟩
    · cases hx
  · cases hx

end
end Go.Proofs.Ytppfilhlblnmcaa.Abs
/- An abstract machine for the walks, part 5: the operations that turn nothing. No condition. -/
set_option linter.unusedVariables false
namespace Go.Proofs.Ytppfilhlblnmcaa.Abs
open Go

def elemSz (P : Program) (t : TypeId) : Option Nat :=
  match P.underlying t with
  | some (.slice e) => match P.info? e with
    | some i => if 0 < i.size then some i.size else none
    | none => none
  | _ => none
theorem elemSz_some {P : Program} {t : TypeId} {s : Nat} (h : elemSz P t = some s) : ∃ e i, P.underlying t = some (.slice e) ∧ P.info? e = some i ∧ i.size = s ∧ 0 < s := by
  unfold elemSz at h
  split at h
  · rename_i e he
    split at h
    · rename_i i hi
      split at h
      · rename_i hs
        cases h
        exact ⟨e, i, he, hi, rfl, hs⟩
      · cases h
    · cases h
  · cases h
def fldOff (P : Program) (t : TypeId) (f : Nat) : Option Nat :=
  match P.underlying t with
  | some (.struct fs) => match fs[f]? with
    | some fl => match P.info? fl.type with
      | some i => if 0 < i.size then some fl.offset else none
      | none => none
    | none => none
  | _ => none
theorem fldOff_some {P : Program} {t : TypeId} {f off : Nat} (h : fldOff P t f = some off) : ∃ fs fl i, P.underlying t = some (.struct fs) ∧ fs[f]? = some fl ∧ P.info? fl.type = some i ∧ 0 < i.size ∧ fl.offset = off := by
  unfold fldOff at h
  split at h
  · rename_i fs hfs
    split at h
    · rename_i fl hfl
      split at h
      · rename_i i hi
        split at h
        · rename_i hs
          cases h
          exact ⟨fs, fl, i, hfs, hfl, hi, hs, rfl⟩
        · cases h
      · cases h
    · cases h
  · cases h
/-- Is it a struct, and how many cells has it? -/
def vsz (P : Program) (t : TypeId) : Option (Bool × Nat) :=
  match P.underlying t with
  | some (.struct _) => (P.info? t).map fun i => (true, i.size)
  | some (.array _ _) => none
  | some _ => match P.info? t with
    | some i => if i.size = 1 then some (false, 1) else none
    | none => none
  | none => none
theorem vsz_true {P : Program} {t : TypeId} {n : Nat} (h : vsz P t = some (true, n)) : ∃ fs i, P.underlying t = some (.struct fs) ∧ P.info? t = some i ∧ i.size = n := by
  unfold vsz at h
  split at h
  · rename_i fs hfs
    cases hi : P.info? t with
    | none => rw [hi] at h; cases h
    | some i => rw [hi] at h; cases h; exact ⟨fs, i, hfs, rfl, rfl⟩
  · cases h
  · split at h
    · split at h <;> cases h
    · cases h
  · cases h
theorem vsz_false {P : Program} {t : TypeId} {n : Nat} (h : vsz P t = some (false, n)) : ∃ d i, P.underlying t = some d ∧ (∀ fs, d ≠ .struct fs) ∧ (∀ k e, d ≠ .array k e) ∧ n = 1 ∧ P.info? t = some i ∧ i.size = 1 := by
  unfold vsz at h
  split at h
  · cases hi : P.info? t with
    | none => rw [hi] at h; cases h
    | some i => rw [hi] at h; cases h
  · cases h
  · rename_i d h1 h2 hd
    split at h
    · rename_i i hi
      split at h
      · rename_i hs
        cases h
        exact ⟨d, i, hd, fun fs e => h1 fs e, fun k e' e => h2 k e' e, rfl, hi, hs⟩
      · cases h
    · cases h
  · cases h

theorem run_isAgg_true {P : Program} {t : TypeId} {fs : Array Field} (h : P.underlying t = some (.struct fs)) (w : World) : (isAgg t).run P w = .ok true w := by
  unfold isAgg
  rw [Sem.run_bind, run_underlying h]
  rfl
theorem run_isAgg_false {P : Program} {t : TypeId} {d : TypeDesc} (h : P.underlying t = some d) (h1 : ∀ fs, d ≠ .struct fs) (h2 : ∀ k e, d ≠ .array k e) (w : World) : (isAgg t).run P w = .ok false w := by
  unfold isAgg
  rw [Sem.run_bind, run_underlying h]
  simp only [Result.andThen_ok]
  rfl
theorem run_sizeOf' {P : Program} {t : TypeId} {i : TypeInfo} (h : P.info? t = some i) (w : World) : (sizeOf t).run P w = .ok i.size w := by
  simp only [sizeOf, typeInfo, Sem.run_bind, run_program, Result.andThen_ok, h, Sem.run_pure]

/-- A load, by what lies there. -/
theorem run_loadVar {P : Program} {w : World} {t : TypeId} {g : Bool} {n : Nat} {ad : Addr} {vs : List Value} {v : Value} (ht : vsz P t = some (g, n)) (hl : vs.length = n) (hc : ∀ (i : Nat) u, vs[i]? = some u → w.cell? (ad.add i) = some u) (hv : mkv g vs v) : (loadVar t ad).run P w = .ok v w := by
  cases g with
  | true =>
    obtain ⟨fs, i, h1, h2, rfl⟩ := vsz_true ht
    have h3 := run_loadCells_list (P := P) w ad vs hc
    simp only [loadVar, Sem.run_bind, run_isAgg_true h1, Result.andThen_ok, if_true, run_sizeOf' h2, ← hl, h3, Sem.run_pure]
    rw [show v = _ from hv]
  | false =>
    obtain ⟨d, _, h1, h2, h3, rfl, _, _⟩ := vsz_false ht
    cases hv
    have h4 := hc 0 v rfl
    simp only [loadVar, Sem.run_bind, run_isAgg_false h1 h2 h3, Result.andThen_ok, Bool.false_eq_true, if_false, run_load]
    rw [show ad.add 0 = ad from rfl] at h4
    rw [h4]

theorem wrapVal {P : Program} {w w' : World} {s : Sem Value} {v : Value} (h : s.run P w = .ok v w') : (do pure (Next.value (← s)) : Sem Next).run P w = .ok (.value v) w' := by
  rw [Sem.run_bind, h]; rfl

theorem Addr.add_none (b o n : Nat) : Addr.add ⟨b, o, none⟩ n = ⟨b, o + n, none⟩ := Addr.add_lit b o n

/-- Cells i * s to i * s + s. -/
def idx (s : Nat) (cs : List Cell) (n : Int) : Option (List Cell) := if 0 ≤ n ∧ (n.toNat + 1) * s ≤ cs.length then some ((cs.drop (n.toNat * s)).take s) else none
theorem idx_some {s : Nat} {cs rs : List Cell} {n : Int} (h : idx s cs n = some rs) : 0 ≤ n ∧ n.toNat * s + s ≤ cs.length ∧ rs = (cs.drop (n.toNat * s)).take s := by
  unfold idx at h
  split at h
  · rename_i hc
    cases h
    exact ⟨hc.1, by rw [← Nat.succ_mul]; exact hc.2, rfl⟩
  · cases h

def evBin : BinOp → Value → Value → Option Value
  | .add, .int k x, .int k' y => if k = k' then some (.int k (k.wrap (x + y))) else none
  | .sub, .int k x, .int k' y => if k = k' then some (.int k (k.wrap (x - y))) else none
  | .mul, .int k x, .int k' y => if k = k' then some (.int k (k.wrap (x * y))) else none
  | .quo, .int k x, .int k' y => if k = k' ∧ y ≠ 0 then some (.int k (k.wrap (x.tdiv y))) else none
  | .rem, .int k x, .int k' y => if k = k' ∧ y ≠ 0 then some (.int k (x.tmod y)) else none
  | .eql, .int k x, .int k' y => if k = k' then some (.bool (decide (x = y))) else none
  | .neq, .int k x, .int k' y => if k = k' then some (.bool (!decide (x = y))) else none
  | .lss, .int k x, .int k' y => if k = k' then some (.bool (decide (x < y))) else none
  | .leq, .int k x, .int k' y => if k = k' then some (.bool (decide (x ≤ y))) else none
  | .gtr, .int k x, .int k' y => if k = k' then some (.bool (decide (x > y))) else none
  | .geq, .int k x, .int k' y => if k = k' then some (.bool (decide (x ≥ y))) else none
  | .add, .string x, .string y => if x.size ≤ 9223372036854775807 - y.size ∧ y.size ≤ 9223372036854775807 then some (.string (x ++ y)) else none
  | .eql, .string x, .string y => some (.bool (decide (x = y)))
  | .neq, .string x, .string y => some (.bool (!decide (x = y)))
  | _, _, _ => none

theorem bytes_beq (x y : ByteArray) : (x.toList == y.toList) = decide (x = y) := by
  by_cases h : x = y
  · subst h; simp
  · have : x.toList ≠ y.toList := fun e => h (ByteArray.ext (Array.ext' (by
      have hx : ∀ z : ByteArray, z.toList = z.data.toList := fun z => Go.ByteArray.toList_eq z
      rw [← hx, ← hx, e])))
    simp [h, this]

theorem run_evBin {P : Program} {op : BinOp} {u v r : Value} (h : evBin op u v = some r) (t : TypeId) (w : World) : (binOp op t u v).run P w = .ok r w := by
  unfold evBin at h
  split at h <;> first
    | (simp only [Option.ite_none_right_eq_some, Option.some.injEq] at h
       obtain ⟨hk, rfl⟩ := h
       first | (obtain ⟨hk, hy⟩ := hk; subst hk; simp [binOp, Op.intDiv, hy]; done)
             | (subst hk; simp [binOp, Op.intArith, Op.intCmp, bne, BEq.beq]; done)
             | (simp [binOp, Op.stringOp, IntKind.max, IntKind.signed, IntKind.bits]; omega))
    | (cases h; simp [binOp, Op.stringOp, bytes_beq]; done)
    | cases h

def evUn : UnOp → Value → Option Value
  | .not, .bool b => some (.bool !b)
  | .neg, .int k n => some (.int k (k.wrap (0 - n)))
  | _, _ => none
theorem run_evUn {P : Program} {op : UnOp} {u r : Value} (h : evUn op u = some r) (w : World) : (Op.unary op u).run P w = .ok r w := by
  unfold evUn at h
  split at h
  · cases h; rfl
  · cases h; rfl
  · cases h

end Go.Proofs.Ytppfilhlblnmcaa.Abs
/- An abstract machine for the walks, part 6: what an operation yields that turns nothing. No condition. -/
set_option linter.unusedVariables false
namespace Go.Proofs.Ytppfilhlblnmcaa.Abs
open Go

def evLoad (P : Program) (X : St) (t : TypeId) (x : Operand) : Option T :=
  match vsz P t with
  | none => none
  | some (g, n) => match look X x with
    | some (.dp cs) => if n ≤ cs.length then some (.dat g (cs.take n)) else none
    | some (.pl id q j) => match cont X id q j n with
      | some cs => if cpyL cs then some (.dat g cs) else some (.bor id q j n g)
      | none => none
    | _ => none
def evField (P : Program) (X : St) (t : TypeId) (x : Operand) (f : Nat) : Option T :=
  match fldOff P t f with
  | none => none
  | some off => match look X x with
    | some (.dp cs) => some (.dp (cs.drop off))
    | some (.pl id q j) => (cont X id q j 0).map fun _ => .pl id q (j + off)
    | _ => none
def evIndex (P : Program) (X : St) (t : TypeId) (x i : Operand) : Option T :=
  match elemSz P t with
  | none => none
  | some s => match scal X i with
    | some (.int _ n) => match look X x with
      | some (.dat false [.sl none s' cs]) => if s' = s then (idx s cs n).map .dp else none
      | some (.bor id none j 1 false) => match cont X id none j 1 with
        | some [.sl (some _) s' cs] => if s' = s then (idx s cs n).map fun _ => .pl id (some (j, n.toNat)) 0 else none
        | _ => none
      | _ => none
    | _ => none
def capOb (X : St) : List Operand → Option (List Cap)
  | [] => some []
  | x :: r => match look X x with
    | some (.pl id none 0) => match lk X.sg id with
      | some (.mem _) => (capOb X r).map (.ob id :: ·)
      | _ => none
    | some (.dp cs) => (capOb X r).map (.ro cs :: ·)
    | _ => none
def isStr (P : Program) (t : TypeId) : Bool :=
  match P.underlying t with
  | some .string => true
  | _ => false
theorem isStr_some {P : Program} {t : TypeId} (h : isStr P t = true) : P.underlying t = some .string := by
  unfold isStr at h
  split at h
  · assumption
  · cases h
def evLen (P : Program) (X : St) (ty : TypeId) (x : Operand) : Option T :=
  match elemSz P ty with
  | some _ => match slc X x with
    | some (_, s, cs) => some (.dat false [.sc (.int .i64 (cs.length / s : Nat))])
    | none => none
  | none => if isStr P ty then match scal X x with
      | some (.string s) => some (.dat false [.sc (.int .i64 s.size)])
      | _ => none
    else none

section
variable {C : Cx} {X : St} {a : Act} {w : World} {L : Nat → Loc} {G : Nat → List Nat} {o : Oper} {t : T}

/-- It yields a value of that make, and nothing turns. -/
def Yld (C : Cx) (X : St) (a : Act) (w : World) (L : Nat → Loc) (G : Nat → List Nat) (o : Oper) (t : T) : Prop :=
  ∃ v, (execOp a.eval o).run C.P w = .ok (.value v) w ∧ RepT w (C.A G) C.hv L X.sg t v ∧ ∀ i ∈ refs t, lk X.sg i ≠ none

theorem Sim.yMove (h : Sim C X a w L G) {x : Operand} (ho : o.op = .move x ∨ o.op = .assign x) (hx : Abs.look X x = some t) : Yld C X a w L G o t := by
  obtain ⟨h1, h2⟩ := h.look hx
  refine ⟨a.eval x, ?_, h1, h2⟩
  unfold execOp
  rcases ho with ho | ho <;> rw [ho] <;> rfl

theorem Sim.yPick (h : Sim C X a w L G) {c x y : Operand} {b : Bool} (ho : o.op = .pick c x y) (hc : Abs.scal X c = some (.bool b)) (hx : Abs.look X (if b then x else y) = some t) : Yld C X a w L G o t := by
  obtain ⟨h1, h2⟩ := h.look hx
  refine ⟨_, ?_, h1, h2⟩
  unfold execOp
  rw [ho]
  simp only [(h.scal hc).1, asBool, Sem.run_bind, Sem.run_pure, Result.andThen_ok]
  cases b <;> rfl

theorem Sim.yLoad (h : Sim C X a w L G) {ty : TypeId} {x : Operand} (ho : o.op = .load ty x) (hx : evLoad C.P X ty x = some t) : Yld C X a w L G o t := by
  unfold evLoad at hx
  split at hx
  · cases hx
  · rename_i g n hv
    have run : ∀ b off vs v, a.eval x = .pointer (some ⟨b, off, none⟩) → vs.length = n → (∀ (i : Nat) u, vs[i]? = some u → w.cell? ⟨b, off + i, none⟩ = some u) → mkv g vs v → (execOp a.eval o).run C.P w = .ok (.value v) w := by
      intro b off vs v he hl hc hm
      unfold execOp
      rw [ho]
      refine wrapVal ?_
      simp only [Instr.loadAt, he, Instr.sureAddr, Sem.run_bind, Sem.run_pure, Result.andThen_ok]
      exact run_loadVar hv hl (fun i u hi => by rw [Addr.add_none]; exact hc i u hi) hm
    split at hx
    · rename_i cs hl
      split at hx
      · rename_i hle
        cases hx
        obtain ⟨⟨⟨b, off, sp⟩, vs, he, hsp, hcp, hR, hcell, hA⟩, _⟩ := h.look hl
        cases hsp
        obtain ⟨v1, us, v3, F1, F2, F3, rfl, hl1, hl2, hF, r1, r2, r3⟩ := RepL.mid hR 0 n (by omega)
        have e1 : v1 = [] := List.eq_nil_of_length_eq_zero hl1
        subst e1
        have hF2 : F2 = [] := by
          have := congrArg List.length hF
          simp at this
          exact List.eq_nil_of_length_eq_zero (by omega)
        subst hF2
        simp only [List.drop_zero, List.nil_append] at r2 hcell
        have hcp2 : cpyL (cs.take n) = true := by
          have : ∀ (l : List Cell) (k : Nat), cpyL l = true → cpyL (l.take k) = true := by
            intro l
            induction l with
            | nil => intro k _; simp [cpyL]
            | cons c r ih =>
              intro k hk
              cases k with
              | zero => rfl
              | succ k =>
                simp only [cpyL, Bool.and_eq_true, List.take_succ_cons] at hk ⊢
                exact ⟨hk.1, ih k hk.2⟩
          exact this cs n hcp
        have hg : ∃ v, mkv g us v := by
          cases g with
          | true => exact ⟨_, rfl⟩
          | false =>
            obtain ⟨_, _, _, _, _, hn1, _, _⟩ := vsz_false hv
            have : us.length = 1 := by omega
            match us, this with
            | [u], _ => exact ⟨u, rfl⟩
        obtain ⟨v, hm⟩ := hg
        refine ⟨v, run b off us v he hl2 (fun i u hi => hcell i u ?_) hm, ⟨hcp2, us, r2, hm⟩, fun i hi => nomatch hi⟩
        rw [List.getElem?_append_left (List.getElem?_eq_some_iff.1 hi).1]
        exact hi
      · cases hx
    · rename_i id q j hl
      split at hx
      · rename_i cs hc
        obtain ⟨hp, hrf⟩ := h.look hl
        obtain ⟨ob, rs, s, vs, F1, F2, F3, h1, h2, h3, h4, h5, h6, h7, h8⟩ := h.cont hc
        obtain ⟨b, off, k1, k2⟩ := hp ob h1 rs h2
        cases h4.uniq k1
        have hg : ∃ v, mkv g vs v := by
          cases g with
          | true => exact ⟨_, rfl⟩
          | false =>
            obtain ⟨_, _, _, _, _, hn1, _, _⟩ := vsz_false hv
            have : vs.length = 1 := by omega
            match vs, this with
            | [u], _ => exact ⟨u, rfl⟩
        obtain ⟨v, hm⟩ := hg
        have hrun := run b (off + j) vs v k2 h5 (fun i u hi => by
          have hlt := (List.getElem?_eq_some_iff.1 hi).1
          have := h8 i (by omega)
          rw [hi] at this
          simp only [rd] at this
          rw [Nat.add_assoc]
          exact this) hm
        split at hx
        · rename_i hcp
          cases hx
          refine ⟨v, hrun, ⟨hcp, vs, ?_, hm⟩, fun i hi => nomatch hi⟩
          rw [RepL.cpy cs vs F2 h6 hcp] at h6
          exact h6
        · cases hx
          refine ⟨v, hrun, ?_, fun i hi => by simp only [refs, refU, List.mem_singleton] at hi; subst hi; rw [h1]; simp⟩
          intro ob' ho' rs' hr' _
          rw [h1] at ho'
          cases ho'
          rw [h2] at hr'
          cases hr'
          exact ⟨.mem b off, vs, h4, h5, h8, hm⟩
      · cases hx
    · cases hx

theorem Sim.yField (h : Sim C X a w L G) {ty : TypeId} {x : Operand} {f : Nat} (ho : o.op = .fieldAddr ty x f) (hx : evField C.P X ty x f = some t) : Yld C X a w L G o t := by
  unfold evField at hx
  split at hx
  · cases hx
  · rename_i off hf
    obtain ⟨fs, fl, i, h1, h2, h3, h4, rfl⟩ := fldOff_some hf
    have run : ∀ b n, a.eval x = .pointer (some ⟨b, n, none⟩) → (execOp a.eval o).run C.P w = .ok (.value (.pointer (some ⟨b, n + fl.offset, none⟩))) w := by
      intro b n he
      unfold execOp
      rw [ho]
      refine wrapVal ?_
      have hne : i.size ≠ 0 := by omega
      simp only [Instr.fieldAt, Sem.run_bind, run_underlying h1, Result.andThen_ok, h2, he, Instr.sureAddr, Sem.run_pure, fieldPlace, run_sizeOf' h3, Sem.run_ite, if_neg hne, Addr.add_none]
    split at hx
    · rename_i cs hl
      cases hx
      obtain ⟨⟨⟨b, n, sp⟩, vs, he, hsp, hcp, hR, hcell, hA⟩, _⟩ := h.look hl
      cases hsp
      refine ⟨_, run b n he, ⟨⟨b, n + fl.offset, none⟩, vs.drop fl.offset, rfl, rfl, ?_, ?_, fun i u hi => ?_, fun hn => hA ?_⟩, fun i hi => nomatch hi⟩
      · have : ∀ (l : List Cell) (k : Nat), cpyL l = true → cpyL (l.drop k) = true := by
          intro l
          induction l with
          | nil => intro k _; simp [cpyL]
          | cons c r ih =>
            intro k hk
            cases k with
            | zero => exact hk
            | succ k =>
              simp only [cpyL, Bool.and_eq_true, List.drop_succ_cons] at hk ⊢
              exact ih k hk.2
        exact this cs _ hcp
      · by_cases hle : fl.offset ≤ cs.length
        · rw [← List.take_append_drop fl.offset cs] at hR
          obtain ⟨v1, v2, F1, F2, rfl, hF, r1, r2⟩ := RepL.split hR
          have hF2 : F2 = [] := (List.append_eq_nil_iff.1 hF.symm).2
          subst hF2
          have : v1.length = fl.offset := by rw [RepL.length r1, List.length_take]; omega
          rw [← this, List.drop_left, this]
          exact r2
        · have hlen := RepL.length hR
          rw [List.drop_eq_nil_of_le (by omega), List.drop_eq_nil_of_le (by omega)]
          exact ⟨rfl, rfl⟩
      · rw [List.getElem?_drop] at hi
        have := hcell _ _ hi
        simp only at this ⊢
        rw [Nat.add_assoc]
        exact this
      · intro e
        subst e
        simp at hn
    · rename_i id q j hl
      cases hc : Abs.cont X id q j 0 with
      | none => rw [hc] at hx; cases hx
      | some cs =>
        rw [hc] at hx
        cases hx
        obtain ⟨hp, hrf⟩ := h.look hl
        obtain ⟨ob, rs, s, vs, F1, F2, F3, g1, g2, g3, g4, g5, g6, g7, g8⟩ := h.cont hc
        obtain ⟨b, n, k1, k2⟩ := hp ob g1 rs g2
        refine ⟨_, run b (n + j) k2, ?_, hrf⟩
        intro ob' ho' rs' hr'
        rw [g1] at ho'
        cases ho'
        rw [g2] at hr'
        cases hr'
        exact ⟨b, n, k1, by rw [Nat.add_assoc]⟩
    · cases hx

/-- The address of an element. -/
theorem run_indexAt {P : Program} {ty e : TypeId} {i : TypeInfo} {w : World} {ad : Addr} {len cap : Nat} {k : IntKind} {n : Int} (h1 : P.underlying ty = some (.slice e)) (h2 : P.info? e = some i) (h0 : 0 ≤ n) (hn : n < len) :
    (Instr.indexAt ty (.slice (some ad) len cap) (.int k n)).run P w = .ok (.pointer (some (ad.add (n.toNat * i.size)))) w := by
  simp only [Instr.indexAt, asIntOf, Sem.run_bind, Sem.run_pure, Result.andThen_ok, run_underlying h1]
  simp only [Sem.run_bind, run_sizeOf' h2, Result.andThen_ok, Sem.run_pure, if_pos (show 0 ≤ n ∧ n < (len : Int) from ⟨h0, hn⟩)]

theorem Sim.yIndex (h : Sim C X a w L G) {ty : TypeId} {x i : Operand} (ho : o.op = .indexAddr ty x i) (hx : evIndex C.P X ty x i = some t) : Yld C X a w L G o t := by
  unfold evIndex at hx
  split at hx
  · cases hx
  · rename_i s hs
    obtain ⟨e, inf, h1, h2, rfl, hpos⟩ := elemSz_some hs
    split at hx
    · rename_i k n hi
      obtain ⟨he, _⟩ := h.scal hi
      have run : ∀ ad len cap, a.eval x = .slice (some ad) len cap → 0 ≤ n → n < len → (execOp a.eval o).run C.P w = .ok (.value (.pointer (some (ad.add (n.toNat * inf.size))))) w := by
        intro ad len cap hx h0 hn
        unfold execOp
        rw [ho]
        refine wrapVal ?_
        simp only [hx, he]
        exact run_indexAt h1 h2 h0 hn
      split at hx
      · rename_i s' cs hl
        split at hx
        · rename_i hss
          subst hss
          cases hid : idx inf.size cs n with
          | none => rw [hid] at hx; cases hx
          | some rs =>
            rw [hid] at hx
            cases hx
            obtain ⟨h0, hle, rfl⟩ := idx_some hid
            obtain ⟨⟨hcp, vs, hR, hm⟩, _⟩ := h.look hl
            cases hm
            obtain ⟨base, len, cap, hv, _, hlen, hcap, _, hb⟩ := RepL.one hR
            cases base with
            | none =>
              exfalso
              obtain ⟨rfl, _⟩ := hb
              have : len = 0 := by omega
              rw [this, Nat.zero_mul] at hlen
              omega
            | some ad =>
              obtain ⟨hsp, us, g, hRL, hcell, hg0, _, hA⟩ := hb
              subst hg0
              have hlt : n.toNat < len := by
                refine Nat.lt_of_mul_lt_mul_right (a := inf.size) ?_
                rw [hlen]; omega
              obtain ⟨u1, u2, u3, G1, G2, G3, rfl, hlu1, hlu2, hG, k1, k2, k3⟩ := RepL.mid hRL (n.toNat * inf.size) inf.size hle
              have hG2 : G2 = [] := by
                have := congrArg List.length hG
                simp at this
                exact List.eq_nil_of_length_eq_zero (by omega)
              subst hG2
              obtain ⟨ab, ao, asp⟩ := ad
              cases hsp (.inr (by intro h0; rw [h0, List.length_nil] at hle; omega))
              refine ⟨_, run ⟨ab, ao, none⟩ len cap hv h0 (by omega), ⟨_, u2, rfl, by rw [Addr.add_none], ?_, k2, fun j u hj => ?_, fun hne => ?_⟩, fun i hi => nomatch hi⟩
              · simp only [cpyL, cpy, Option.isNone_none, Bool.true_and, Bool.and_true] at hcp
                have ht : ∀ (l : List Cell) (k : Nat), cpyL l = true → cpyL (l.take k) = true ∧ cpyL (l.drop k) = true := by
                  intro l
                  induction l with
                  | nil => intro k _; simp [cpyL]
                  | cons c r ih =>
                    intro k hk
                    cases k with
                    | zero => exact ⟨rfl, hk⟩
                    | succ k =>
                      simp only [cpyL, Bool.and_eq_true, List.take_succ_cons, List.drop_succ_cons] at hk ⊢
                      exact ⟨⟨hk.1, (ih k hk.2).1⟩, (ih k hk.2).2⟩
                exact (ht _ _ (ht cs _ hcp).2).1
              · have hlt' : j < u2.length := (List.getElem?_eq_some_iff.1 hj).1
                have := hcell (n.toNat * inf.size + j) u (by
                  rw [List.append_assoc, List.getElem?_append_right (by omega), hlu1, List.getElem?_append_left (by omega)]
                  rw [show n.toNat * inf.size + j - n.toNat * inf.size = j by omega]
                  exact hj)
                simp only [Addr.add_none] at this ⊢
                rw [Nat.add_assoc]
                exact this
              · rw [Addr.add_none]
                refine hA ?_
                intro e
                subst e
                simp at hle
                omega
        · cases hx
      · rename_i id j hl
        split at hx
        · rename_i k' s' cs hc
          split at hx
          · rename_i hss
            subst hss
            cases hid : idx inf.size cs n with
            | none => rw [hid] at hx; cases hx
            | some rs =>
              rw [hid] at hx
              cases hx
              obtain ⟨h0, hle, rfl⟩ := idx_some hid
              obtain ⟨hb, hrf⟩ := h.look hl
              obtain ⟨vs, F1, F2, F3, hR, _, hm, _⟩ := h.bor hc hb
              obtain ⟨ob, rs0, s0, vs0, _, _, _, g1, g2, g3, g4, g5, g6, g7, g8⟩ := h.cont hc
              cases hm
              obtain ⟨base, len, cap, hv, _, hlen, hcap, _, hbs⟩ := RepL.one hR
              cases base with
              | none =>
                exfalso
                obtain ⟨rfl, _⟩ := hbs
                have : len = 0 := by omega
                rw [this, Nat.zero_mul] at hlen
                omega
              | some ad =>
                obtain ⟨hsp, us, g, hRL, hcell, ha0, _⟩ := hbs
                have hlt : n.toNat < len := by
                  refine Nat.lt_of_mul_lt_mul_right (a := inf.size) ?_
                  rw [hlen]; omega
                obtain ⟨ab, ao, asp⟩ := ad
                cases hsp (.inl (fun h => nomatch h))
                simp only at ha0
                subst ha0
                refine ⟨_, run ⟨ab, 0, none⟩ len cap hv h0 (by omega), ?_, hrf⟩
                intro ob' ho' rs' hr'
                rw [g1] at ho'
                cases ho'
                cases g2
                have hcj : ob.cells[j]? = some (.sl (some k') inf.size cs) := by
                  unfold Abs.cont at hc
                  rw [g1] at hc
                  simp only [row] at hc
                  rw [if_pos g3] at hc
                  have := congrArg (fun l => l[0]?) (Option.some.inj hc)
                  simpa [List.getElem?_take, List.getElem?_drop] using this
                -- the header
                obtain ⟨s1, vs1, q1, q2, q3, q4⟩ := hb ob g1 ob.cells rfl g3
                cases q4
                have hrd := q3 0 (by omega)
                rw [show s1 = _ from q1] at hrd
                refine ⟨ab, n.toNat * inf.size, ⟨k', inf.size, cs, ⟨ab, 0, none⟩, len, cap, hcj, ?_, rfl⟩, ?_⟩
                · rw [hv] at hrd
                  simpa using hrd
                · rw [Addr.add_none]; simp
          · cases hx
        · cases hx
      · cases hx
    · cases hx

theorem Sim.yLen (h : Sim C X a w L G) {x : Operand} {ty : TypeId} (ho : o.op = .call { callee := .builtin .len, args := #[x], argTypes := #[ty] }) (hx : evLen C.P X ty x = some t) : Yld C X a w L G o t := by
  have run : ∀ n : Int, (Builtin.len_ #[ty] o.type #[a.eval x]).run C.P w = .ok (goInt n) w → (execOp a.eval o).run C.P w = .ok (.value (.int .i64 n)) w := by
    intro n hn
    unfold execOp
    rw [ho]
    simp only [resolve, List.map_toArray, List.map_cons, List.map_nil, Sem.run_bind, Sem.run_pure, Result.andThen_ok, invoke, builtin, hn]
    rfl
  unfold evLen at hx
  split at hx
  · rename_i s0 hs0
    obtain ⟨e, inf, hty, _⟩ := elemSz_some hs0
    split at hx
    · rename_i k s cs hsl
      cases hx
      obtain ⟨F, base, len, cap, hv, hs, hl, hc, _⟩ := h.slc hsl
      have hdiv : cs.length / s = len := by rw [← hl]; exact Nat.mul_div_cancel _ hs
      rw [hdiv]
      refine ⟨.int .i64 (len : Int), run _ ?_, ⟨rfl, [_], Rep.one ⟨rfl, rfl, rfl⟩, rfl⟩, fun i hi => nomatch hi⟩
      simp only [Builtin.len_, List.getElem?_toArray, List.getElem?_cons_zero, Sem.run_bind, run_underlying hty, Result.andThen_ok, hv]
      rfl
    · cases hx
  · split at hx
    · rename_i hst
      split at hx
      · rename_i s hsc
        cases hx
        refine ⟨.int .i64 s.size, run _ ?_, ⟨rfl, [_], Rep.one ⟨rfl, rfl, rfl⟩, rfl⟩, fun i hi => nomatch hi⟩
        simp only [Builtin.len_, List.getElem?_toArray, List.getElem?_cons_zero, Sem.run_bind, run_underlying (isStr_some hst), Result.andThen_ok, (h.scal hsc).1]
        rfl
      · cases hx
    · cases hx

end
end Go.Proofs.Ytppfilhlblnmcaa.Abs
/- An abstract machine for the walks, part 7: what an operation yields that turns nothing, all of them. No condition. -/
set_option linter.unusedVariables false
namespace Go.Proofs.Ytppfilhlblnmcaa.Abs
open Go

theorem cpyL_take : ∀ (l : List Cell) (k : Nat), cpyL l = true → cpyL (l.take k) = true ∧ cpyL (l.drop k) = true := by
  intro l
  induction l with
  | nil => intro k _; simp [cpyL]
  | cons c r ih =>
    intro k hk
    cases k with
    | zero => exact ⟨rfl, hk⟩
    | succ k =>
      simp only [cpyL, Bool.and_eq_true, List.take_succ_cons, List.drop_succ_cons] at hk ⊢
      exact ⟨⟨hk.1, (ih k hk.2).1⟩, (ih k hk.2).2⟩

/-- A bound of a slice: a number from 0 to m; without one: d. -/
def bnd (X : St) (x : Option Operand) (m d : Nat) : Option Nat :=
  match x with
  | none => some d
  | some x => match scal X x with
    | some (.int _ n) => if 0 ≤ n ∧ n ≤ m then some n.toNat else none
    | _ => none
def evSlice (P : Program) (X : St) (ty : TypeId) (x : Operand) (lo hi : Option Operand) : Option T :=
  match elemSz P ty with
  | some s => match look X x with
    | some (.dat false [.sl none s' cs]) => if s' = s then
        match bnd X hi (cs.length / s) (cs.length / s) with
        | some h => match bnd X lo h 0 with
          | some l => some (.dat false [.sl none s ((cs.drop (l * s)).take ((h - l) * s))])
          | none => none
        | none => none
      else none
    | _ => none
  | none => if isStr P ty then match scal X x with
      | some (.string b) => match bnd X hi b.size b.size with
        | some h => match bnd X lo h 0 with
          | some l => some (.dat false [.sc (.string (b.extract l h))])
          | none => none
        | none => none
      | _ => none
    else none
def scEq (P : Program) (t : TypeId) : Value → Value → Option Bool
  | .int k a, .int k' b => match P.underlying t with
    | some (.int _) => if k = k' then some (decide (a = b)) else none
    | _ => none
  | .string a, .string b => match P.underlying t with
    | some .string => some (decide (a = b))
    | _ => none
  | _, _ => none
def eqFs (P : Program) : List Field → Nat → List Cell → List Cell → Option Bool
  | [], _, [], [] => some true
  | f :: fs, n, .sc u :: cs, .sc v :: ds => if (f.name == "_") = false ∧ f.offset = n then
      match scEq P f.type u v, eqFs P fs (n + 1) cs ds with
      | some a, some b => some (a && b)
      | _, _ => none
    else none
  | _, _, _, _ => none
/-- Are two structs of type t, all fields numbers or strings, the same? -/
def eqSc (P : Program) (t : TypeId) (cs ds : List Cell) : Option Bool :=
  if P.stoodInHeld t = false ∧ P.eqGuardType P.depth t = false then
    match P.underlying t with
    | some (.struct fs) => eqFs P fs.toList 0 cs ds
    | _ => none
  else none
def evBB (P : Program) (op : BinOp) (t : TypeId) : Value → Value → Option T
  | .bool a, .bool b => match P.underlying t with
    | some .bool => match op with
      | .eql => some (.dat false [.sc (.bool (decide (a = b)))])
      | .neq => some (.dat false [.sc (.bool !decide (a = b))])
      | _ => none
    | _ => none
  | _, _ => none
def evEq (P : Program) (op : BinOp) (t : TypeId) : Option T → Option T → Option T
  | some (.dat true cs), some (.dat true ds) => match op, eqSc P t cs ds with
    | .eql, some b => some (.dat false [.sc (.bool b)])
    | .neq, some b => some (.dat false [.sc (.bool !b)])
    | _, _ => none
  | _, _ => none
/-- Bytes that are told. -/
def bytesC : List Cell → Option (List Int)
  | [] => some []
  | .sc (.int .u8 n) :: r => (bytesC r).map (n :: ·)
  | _ => none
def evConv (P : Program) (X : St) (src dst : TypeId) (x : Operand) : Option T :=
  match P.underlying dst, P.underlying src, scal X x with
  | some (.int k), some _, some (.int _ n) => some (.dat false [.sc (.int k (k.wrap n))])
  | some .string, some .string, some (.string s) => some (.dat false [.sc (.string s)])
  | some .string, some (.slice e), none => match P.underlying e, slc X x with
    | some (.int .u8), some (_, s, cs) => if s = 1 then (bytesC cs).map fun ns => .dat false [.sc (.string (strOfNums ns))] else none
    | _, _ => none
  | _, _, _ => none
def evStrIx (P : Program) (X : St) (ty : TypeId) (x i : Operand) : Option T :=
  if isStr P ty then match scal X x, scal X i with
    | some (.string s), some (.int _ n) => if 0 ≤ n then match s[n.toNat]? with
        | some b => some (.dat false [.sc (.int .u8 b.toNat)])
        | none => none
      else none
    | _, _ => none
  else none
def mm2 (big : Bool) : Value → Value → Option Value
  | .int k x, .int _ y => some (.int k (if big then (if y > x then y else x) else (if y < x then y else x)))
  | _, _ => none

def isNil : Operand → Bool
  | .const (.slice none 0 0) => true
  | _ => false
/-- What an operation yields that turns nothing; none of any other. -/
def evV (P : Program) (X : St) (o : Oper) : Option T :=
  match o.op with
  | .move x | .assign x => if isNil x then none else look X x
  | .pick c x y => match scal X c with
    | some (.bool true) => look X x
    | some (.bool false) => look X y
    | _ => none
  | .load t x => evLoad P X t x
  | .fieldAddr t x f => evField P X t x f
  | .indexAddr t x i => evIndex P X t x i
  | .nilCheck x => match look X x with
    | some (.dp cs) => some (.dp cs)
    | some (.pl id q j) => (cont X id q j 0).map fun _ => .pl id q j
    | _ => none
  | .extract x k => match look X x with
    | some (.tup ts) => ts[k]?
    | _ => none
  | .makeFunc (.func f) fst cs => if fst.isEmpty then (capOb X cs.toList).map (.clo f) else none
  | .binOp op t x y _ => match scal X x, scal X y with
    | some u, some v => match evBin op u v with
      | some r => some (.dat false [.sc r])
      | none => evBB P op t u v
    | _, _ => evEq P op t (look X x) (look X y)
  | .unOp op _ x => match scal X x with
    | some u => (evUn op u).map fun r => .dat false [.sc r]
    | none => none
  | .index t x i => evStrIx P X t x i
  | .slice t x lo hi none => evSlice P X t x lo hi
  | .convert s d x => evConv P X s d x
  | .call { callee := .builtin .len, args := ⟨[x]⟩, argTypes := ⟨[t]⟩ } => evLen P X t x
  | .call { callee := .builtin .max, args := ⟨[x, y]⟩, argTypes := _ } => match scal X x, scal X y with
    | some u, some v => (mm2 true u v).map fun r => .dat false [.sc r]
    | _, _ => none
  | .call { callee := .builtin .min, args := ⟨[x, y]⟩, argTypes := _ } => match scal X x, scal X y with
    | some u, some v => (mm2 false u v).map fun r => .dat false [.sc r]
    | _, _ => none
  | _ => none

section
variable {C : Cx} {X : St} {a : Act} {w : World} {L : Nat → Loc} {G : Nat → List Nat} {o : Oper} {t : T}

theorem Sim.sc1 (h : Sim C X a w L G) {v : Value} (hv : flat v = true) (hr : (execOp a.eval o).run C.P w = .ok (.value v) w) : Yld C X a w L G o (.dat false [.sc v]) :=
  ⟨v, hr, ⟨rfl, [_], Rep.one ⟨rfl, hv, rfl⟩, rfl⟩, fun i hi => nomatch hi⟩

theorem Sim.yNil (h : Sim C X a w L G) {x : Operand} (ho : o.op = .nilCheck x) (hx : evV C.P X o = some t) : Yld C X a w L G o t := by
  simp only [evV, ho] at hx
  have run : ∀ ad, a.eval x = .pointer (some ad) → (execOp a.eval o).run C.P w = .ok (.value (.pointer (some ad))) w := by
    intro ad he
    unfold execOp
    rw [ho]
    simp only [he]
    rfl
  split at hx
  · rename_i cs hl
    cases hx
    obtain ⟨hp, hr⟩ := h.look hl
    have hp' := hp
    obtain ⟨ad, vs, he, _⟩ := hp'
    refine ⟨_, run ad he, ?_, hr⟩
    rw [← he]; exact hp
  · rename_i id q j hl
    cases hc : Abs.cont X id q j 0 with
    | none => rw [hc] at hx; cases hx
    | some cs =>
      rw [hc] at hx
      cases hx
      obtain ⟨hp, hr⟩ := h.look hl
      obtain ⟨ob, rs, s, vs, F1, F2, F3, g1, g2, g3, g4, g5, g6, g7, g8⟩ := h.cont hc
      obtain ⟨b, n, k1, k2⟩ := hp ob g1 rs g2
      refine ⟨_, run _ k2, ?_, hr⟩
      rw [← k2]; exact hp
  · cases hx

theorem Sim.yExtract (h : Sim C X a w L G) {x : Operand} {k : Nat} (ho : o.op = .extract x k) (hx : evV C.P X o = some t) : Yld C X a w L G o t := by
  simp only [evV, ho] at hx
  split at hx
  · rename_i ts hl
    obtain ⟨⟨vs, he, hlen, hk⟩, hr⟩ := h.look hl
    have hlt : k < vs.size := by rw [hlen]; exact (List.getElem?_eq_some_iff.1 hx).1
    have hu := hk k t vs[k] hx (Array.getElem?_eq_getElem hlt)
    refine ⟨vs[k], ?_, ?_, fun i hi => hr i ?_⟩
    · unfold execOp
      rw [ho]
      simp only [he, Instr.extract, Array.getElem?_eq_getElem hlt]
      rfl
    · cases t with
      | tup _ => exact hu.elim
      | _ => exact hu
    · simp only [refs, List.mem_flatten, List.mem_map]
      refine ⟨refU t, ⟨t, List.mem_of_getElem? hx, rfl⟩, ?_⟩
      cases t with
      | tup _ => exact hu.elim
      | _ => exact hi
  · cases hx

theorem Sim.capOb (h : Sim C X a w L G) : ∀ (xs : List Operand) (cs : List Cap), capOb X xs = some cs → caps w (C.A G) C.hv L X.sg cs (xs.map a.eval) ∧ ∀ i ∈ capIds cs, lk X.sg i ≠ none
  | [], cs, hx => by cases hx; exact ⟨rfl, fun i hi => nomatch hi⟩
  | x :: r, cs, hx => by
    unfold Abs.capOb at hx
    split at hx
    · rename_i id hl
      split at hx
      · rename_i cc hm
        cases hr : Abs.capOb X r with
        | none => rw [hr] at hx; cases hx
        | some cs' =>
          rw [hr] at hx
          cases hx
          obtain ⟨k1, k2⟩ := Sim.capOb h r cs' hr
          obtain ⟨hp, hrf⟩ := h.look hl
          obtain ⟨b, n, s1, s2⟩ := hp _ hm cc rfl
          have hob := h.ob id _ hm
          cases hL : L id with
          | vals vs => rw [hL] at hob; exact hob.elim
          | blk b' =>
            have : Src.mem b n = Src.mem b' 0 := by rw [show Src.mem b n = (L id).src from s1, hL]; rfl
            cases this
            refine ⟨⟨b, _, by rw [List.map_cons, s2], fun _ _ => hL, k1⟩, fun i hi => ?_⟩
            rcases List.mem_cons.1 hi with rfl | hi
            · exact hrf _ (by simp [refs, refU])
            · exact k2 i hi
      · cases hx
    · rename_i cc hl
      cases hr : Abs.capOb X r with
      | none => rw [hr] at hx; cases hx
      | some cs' =>
        rw [hr] at hx
        cases hx
        obtain ⟨k1, k2⟩ := Sim.capOb h r cs' hr
        obtain ⟨hp, _⟩ := h.look hl
        exact ⟨⟨_, _, rfl, hp, k1⟩, k2⟩
    · cases hx

theorem Sim.yFunc (h : Sim C X a w L G) {f : FuncId} {fst cs : Array Operand} (ho : o.op = .makeFunc (.func f) fst cs) (hx : evV C.P X o = some t) : Yld C X a w L G o t := by
  simp only [evV, ho] at hx
  split at hx
  · rename_i he
    cases hc : Abs.capOb X cs.toList with
    | none => rw [hc] at hx; cases hx
    | some ids =>
      rw [hc] at hx
      cases hx
      obtain ⟨k1, k2⟩ := h.capOb _ _ hc
      have hf : fst = #[] := Array.isEmpty_iff.1 he
      refine ⟨.func (.func f) #[] (cs.map a.eval), ?_, ⟨_, by cases cs; simp, k1⟩, k2⟩
      unfold execOp
      rw [ho]
      refine wrapVal ?_
      rw [hf]
      simp [Instr.makeFunc]
  · cases hx

theorem eqGuard_evBin {P : Program} {op : BinOp} {u v r : Value} (h : evBin op u v = some r) (t : TypeId) (x y : Operand) (w : World) : (eqGuard op t x y u v).run P w = .ok () w := by
  unfold evBin at h
  split at h <;> first | (simp [eqGuard]; done) | cases h

theorem evBin_flat {op : BinOp} {u v r : Value} (h : evBin op u v = some r) : flat r = true := by
  unfold evBin at h
  split at h <;> first
    | (simp only [Option.ite_none_right_eq_some, Option.some.injEq] at h; obtain ⟨_, rfl⟩ := h; rfl)
    | (cases h; rfl)
    | cases h

theorem run_part1 {P : Program} {t : TypeId} {cs : Array Value} {n : Nat} {v : Value} (hA : (isAgg t).run P w = .ok false w) (hv : cs[n]? = some v) : (part t cs n).run P w = .ok v w := by
  simp [part, hA, hv]
theorem run_eqFs {P : Program} {d : Nat} : ∀ (fs : List Field) (n : Nat) (cs ds : List Cell) (us vs : List Value) (xs ys : Array Value) (b : Bool) {A : Nat → Prop} {hv : Nat → Value} {F F' : List Nat}, eqFs P fs n cs ds = some b → RepL w A hv cs us F → RepL w A hv ds vs F' → xs.toList.drop n = us → ys.toList.drop n = vs → (Op.eqFields (d + 1) xs ys fs).run P w = .ok b w
  | [], n, [], [], us, vs, xs, ys, b, A, hv, F, F', h, _, _, _, _ => by
    cases h; simp [Op.eqFields]
  | [], n, [], d' :: ds, us, vs, xs, ys, b, A, hv, F, F', h, _, _, _, _ => by cases h
  | [], n, c :: cs, ds, us, vs, xs, ys, b, A, hv, F, F', h, _, _, _, _ => by cases ds <;> cases h
  | f :: fs, n, [], ds, us, vs, xs, ys, b, A, hv, F, F', h, _, _, _, _ => by cases ds <;> cases h
  | f :: fs, n, .hole :: cs, ds, us, vs, xs, ys, b, A, hv, F, F', h, _, _, _, _ => by cases ds <;> cases h
  | f :: fs, n, .sl k s c :: cs, ds, us, vs, xs, ys, b, A, hv, F, F', h, _, _, _, _ => by cases ds <;> cases h
  | f :: fs, n, .sc u :: cs', [], us, vs, xs, ys, b, A, hv, F, F', h, _, _, _, _ => by cases h
  | f :: fs, n, .sc u :: cs', .hole :: ds, us, vs, xs, ys, b, A, hv, F, F', h, _, _, _, _ => by cases h
  | f :: fs, n, .sc u :: cs', .sl k s c :: ds, us, vs, xs, ys, b, A, hv, F, F', h, _, _, _, _ => by cases h
  | f :: fs, n, .sc u :: cs', .sc v :: ds', us, vs, xs, ys, b, A, hv, F, F', h, hu, hv', hx, hy => by
      simp only [eqFs] at h
      split at h
      · rename_i hc
        obtain ⟨hn, ho⟩ := hc
        split at h
        · rename_i r s hr hs
          cases h
          obtain ⟨u0, us', F1, F2, rfl, rfl, ⟨rfl, _, _⟩, hu2⟩ := hu
          obtain ⟨v0, vs', G1, G2, rfl, rfl, ⟨rfl, _, _⟩, hv2⟩ := hv'
          have hx0 : xs[n]? = some u0 := by
            have := congrArg (·[0]?) hx
            simpa using this
          have hy0 : ys[n]? = some v0 := by
            have := congrArg (·[0]?) hy
            simpa using this
          have hx1 : xs.toList.drop (n + 1) = us' := by rw [← List.drop_drop, hx]; rfl
          have hy1 : ys.toList.drop (n + 1) = vs' := by rw [← List.drop_drop, hy]; rfl
          have ih := run_eqFs (d := d) fs (n + 1) cs' ds' us' vs' xs ys s hs hu2 hv2 hx1 hy1
          have key : (isAgg f.type).run P w = .ok false w ∧ (Op.equalIn (d + 1) f.type u0 v0).run P w = .ok r w := by
            unfold scEq at hr
            split at hr
            · split at hr
              · rename_i k k' a0 b0 _ kk ht
                split at hr
                · rename_i hk
                  subst hk
                  cases hr
                  exact ⟨by simp [isAgg, run_underlying ht], by rw [run_equalIn_int w d f.type _ _ _ _ ht]; simp [BEq.beq]⟩
                · cases hr
              · cases hr
            · split at hr
              · rename_i a0 b0 _ ht
                cases hr
                exact ⟨by simp [isAgg, run_underlying ht], by rw [run_equalIn_string w d f.type _ _ ht, bytes_beq]⟩
              · cases hr
            · cases hr
          have hn' : f.name ≠ "_" := by simpa using hn
          rw [Op.eqFields, if_pos hn']
          simp only [Sem.run_bind, ho, run_part1 key.1 hx0, run_part1 key.1 hy0, Result.andThen_ok, key.2]
          cases r
          · simp
          · simp [ih]
        · cases h
      · cases h
theorem run_eqSc {P : Program} {t : TypeId} {cs ds : List Cell} {us vs : List Value} {b : Bool} {A : Nat → Prop} {hv : Nat → Value} {F F' : List Nat} (h : eqSc P t cs ds = some b) (hu : RepL w A hv cs us F) (hv' : RepL w A hv ds vs F') : (Op.equal t (.agg us.toArray) (.agg vs.toArray)).run P w = .ok b w ∧ P.eqGuardType P.depth t = false := by
  unfold eqSc at h
  split at h
  · rename_i hc
    split at h
    · rename_i fs hf
      have hff : P.fieldsOf t = fs := by simp [Program.fieldsOf, hf]
      refine ⟨?_, hc.2⟩
      show (Op.equalIn (9998 + 1 + 1) t (.agg us.toArray) (.agg vs.toArray)).run P w = .ok b w
      rw [run_equalIn_struct w (9998 + 1) t _ _ (by rw [hff]; exact hf) hc.1, hff]
      exact run_eqFs fs.toList 0 cs ds us vs _ _ b h hu hv' rfl rfl
    · cases h
  · cases h

theorem Sim.yBin (h : Sim C X a w L G) {op : BinOp} {ty ty2 : TypeId} {x y : Operand} (ho : o.op = .binOp op ty x y ty2) (hx : evV C.P X o = some t) : Yld C X a w L G o t := by
  simp only [evV, ho] at hx
  split at hx
  · rename_i u v hu hv
    cases hr : evBin op u v with
    | none =>
      rw [hr] at hx
      simp only at hx
      unfold evBB at hx
      split at hx
      · rename_i a0 b0
        split at hx
        · rename_i ht
          have hq : (Op.equal ty (.bool a0) (.bool b0)).run C.P w = .ok (decide (a0 = b0)) w := by
            show (Op.equalIn (9999 + 1) ty (.bool a0) (.bool b0)).run C.P w = _
            rw [run_equalIn_bool' w 9999 ty a0 b0 ht]
            cases a0 <;> cases b0 <;> rfl
          have hgd : ∀ op' : BinOp, (eqGuard op' ty x y (.bool a0) (.bool b0)).run C.P w = .ok () w := fun op' => by simp [eqGuard]
          split at hx
          · cases hx
            refine h.sc1 rfl ?_
            unfold execOp
            rw [ho]
            refine wrapVal ?_
            rw [(h.scal hu).1, (h.scal hv).1, Sem.run_bind, hgd]
            simp [binOp, hq]
          · cases hx
            refine h.sc1 rfl ?_
            unfold execOp
            rw [ho]
            refine wrapVal ?_
            rw [(h.scal hu).1, (h.scal hv).1, Sem.run_bind, hgd]
            simp [binOp, hq]
          · cases hx
        · cases hx
      · cases hx
    | some r =>
      rw [hr] at hx
      cases hx
      refine h.sc1 (evBin_flat hr) ?_
      unfold execOp
      rw [ho]
      refine wrapVal ?_
      rw [(h.scal hu).1, (h.scal hv).1, Sem.run_bind, eqGuard_evBin hr]
      exact run_evBin hr ty w
  · unfold evEq at hx
    split at hx
    · rename_i cs ds hlx hly
      obtain ⟨⟨_, us, hRu, hmu⟩, _⟩ := h.look hlx
      obtain ⟨⟨_, vs, hRv, hmv⟩, _⟩ := h.look hly
      have hmu : a.eval x = .agg us.toArray := hmu
      have hmv : a.eval y = .agg vs.toArray := hmv
      cases hq : eqSc C.P ty cs ds with
      | none => rw [hq] at hx; cases op <;> cases hx
      | some b =>
        obtain ⟨he, hg⟩ := run_eqSc hq hRu hRv
        have hgd : ∀ op' : BinOp, (eqGuard op' ty x y (.agg us.toArray) (.agg vs.toArray)).run C.P w = .ok () w := fun op' => by
          unfold eqGuard
          cases hb : (!(op' matches .eql | .neq)) with
          | true => simp
          | false => simp [hg]
        rw [hq] at hx
        cases op <;> first | (cases hx; done) | skip
        · cases hx
          refine h.sc1 rfl ?_
          unfold execOp
          rw [ho]
          refine wrapVal ?_
          rw [hmu, hmv, Sem.run_bind, hgd]
          simp [binOp, he]
        · cases hx
          refine h.sc1 rfl ?_
          unfold execOp
          rw [ho]
          refine wrapVal ?_
          rw [hmu, hmv, Sem.run_bind, hgd]
          simp [binOp, he]
    · cases hx

theorem Sim.yUn (h : Sim C X a w L G) {op : UnOp} {ty : TypeId} {x : Operand} (ho : o.op = .unOp op ty x) (hx : evV C.P X o = some t) : Yld C X a w L G o t := by
  simp only [evV, ho] at hx
  split at hx
  · rename_i u hu
    cases hr : evUn op u with
    | none => rw [hr] at hx; cases hx
    | some r =>
      rw [hr] at hx
      cases hx
      refine h.sc1 (by unfold evUn at hr; split at hr <;> first | (cases hr; rfl) | cases hr) ?_
      unfold execOp
      rw [ho]
      refine wrapVal ?_
      rw [(h.scal hu).1]
      exact run_evUn hr w
  · cases hx

theorem Sim.yStrIx (h : Sim C X a w L G) {ty : TypeId} {x i : Operand} (ho : o.op = .index ty x i) (hx : evV C.P X o = some t) : Yld C X a w L G o t := by
  simp only [evV, ho, evStrIx] at hx
  split at hx
  · rename_i hst
    split at hx
    · rename_i s k n hs hn
      split at hx
      · rename_i h0
        split at hx
        · rename_i b hb
          cases hx
          refine h.sc1 rfl ?_
          unfold execOp
          rw [ho]
          refine wrapVal ?_
          rw [(h.scal hs).1, (h.scal hn).1]
          simp only [Instr.index, asIntOf, Sem.run_bind, Sem.run_pure, Result.andThen_ok, run_underlying (isStr_some hst), if_pos h0, hb]
        · cases hx
      · cases hx
    · cases hx
  · cases hx

theorem bytesC_vals {w : World} {A : Nat → Prop} {hv : Nat → Value} : ∀ {cs : List Cell} {vs : List Value} {F : List Nat} {ns : List Int}, RepL w A hv cs vs F → bytesC cs = some ns → vs = ns.map (Value.int .u8)
  | [], vs, F, ns, h, hb => by
    cases hb
    exact h.1
  | .sc u :: r, vs, F, ns, h, hb => by
    obtain ⟨v, us, F1, F2, rfl, rfl, h1, h2⟩ := h
    unfold bytesC at hb
    split at hb
    · rename_i he; cases he
    · rename_i n r' he
      cases he
      cases hr : bytesC r with
      | none => rw [hr] at hb; cases hb
      | some ms =>
        rw [hr] at hb
        cases hb
        rw [h1.1, bytesC_vals h2 hr]
        rfl
    · cases hb
  | .hole :: r, vs, F, ns, h, hb => by cases hb
  | .sl k s ds :: r, vs, F, ns, h, hb => by cases hb
theorem Sim.yConv (h : Sim C X a w L G) {s d : TypeId} {x : Operand} (ho : o.op = .convert s d x) (hx : evV C.P X o = some t) : Yld C X a w L G o t := by
  simp only [evV, ho, evConv] at hx
  split at hx
  · rename_i k d' k' n hd hs hv
    cases hx
    refine h.sc1 rfl ?_
    unfold execOp
    rw [ho]
    refine wrapVal ?_
    rw [(h.scal hv).1]
    simp only [convert, Sem.run_bind, run_underlying hs, run_underlying hd, Result.andThen_ok]
    cases d' <;> rfl
  · rename_i b hd hs hv
    cases hx
    refine h.sc1 rfl ?_
    unfold execOp
    rw [ho]
    refine wrapVal ?_
    rw [(h.scal hv).1]
    simp only [convert, Sem.run_bind, run_underlying hs, run_underlying hd, Result.andThen_ok]
    rfl
  · rename_i e hd hs hv
    split at hx
    · rename_i k z cs he hsl
      split at hx
      · rename_i hz
        subst hz
        cases hb : bytesC cs with
        | none => rw [hb] at hx; cases hx
        | some ns =>
          rw [hb] at hx
          cases hx
          refine h.sc1 rfl ?_
          unfold execOp
          rw [ho]
          refine wrapVal ?_
          obtain ⟨F, hR⟩ := h.slc hsl
          obtain ⟨base, len, cap, hev, _, hl, hc, _, hbs⟩ := hR
          rw [hev]
          cases base with
          | none =>
            have hlen : len = 0 := by omega
            have hcs : cs = [] := List.eq_nil_of_length_eq_zero (by omega)
            subst hcs
            cases hb
            rw [run_convert_bytes_nil w s e hs he len cap d hd]
            rfl
          | some ad =>
            obtain ⟨hsp, vs, G2, hRL, hcell, _⟩ := hbs
            have hvs := bytesC_vals hRL hb
            have hvl := RepL.length hRL
            rw [run_convert_bytes_string w s d e _ len cap hs he hd]
            have hl2 : (loadCells ad len).run C.P w = .ok (ns.map (Value.int .u8)).toArray w := by
              have hlen : len = vs.length := by omega
              rw [hlen, ← hvs]
              refine run_loadCells_list w ad vs (fun j v hj => ?_)
              have hne : cs ≠ [] := fun e => by
                rw [e] at hvl
                rw [List.eq_nil_of_length_eq_zero hvl] at hj
                simp at hj
              have hspn := hsp (.inr hne)
              obtain ⟨b0, o0, s0⟩ := ad
              simp only at hspn
              subst hspn
              rw [Addr.add_none]
              exact hcell j v hj
            rw [run_bytesToString w ad len cap ns hl2, foldl_push_bytes]
            simp [strOfNums, ByteArray.empty, ByteArray.emptyWithCapacity]
            rfl
      · cases hx
    · cases hx
  · cases hx

theorem Sim.bnd (h : Sim C X a w L G) {x : Option Operand} {m d n : Nat} (hx : bnd X x m d = some n) : (x = none ∧ n = d) ∨ ∃ y k, x = some y ∧ a.eval y = .int k n ∧ n ≤ m := by
  unfold Abs.bnd at hx
  split at hx
  · cases hx; exact .inl ⟨rfl, rfl⟩
  · rename_i y
    split at hx
    · rename_i k i hs
      split at hx
      · rename_i hc
        cases hx
        refine .inr ⟨y, k, rfl, ?_, by omega⟩
        rw [(h.scal hs).1, Int.toNat_of_nonneg hc.1]
      · cases hx
    · cases hx

theorem Sim.ySlice (h : Sim C X a w L G) {ty : TypeId} {x : Operand} {lo hi : Option Operand} (ho : o.op = .slice ty x lo hi none) (hx : evV C.P X o = some t) : Yld C X a w L G o t := by
  simp only [evV, ho, evSlice] at hx
  have bounds : ∀ (isS : Bool) (len cap l hh : Nat), ((hi = none ∧ hh = len) ∨ ∃ y k, hi = some y ∧ a.eval y = .int k hh ∧ hh ≤ len) → ((lo = none ∧ l = 0) ∨ ∃ y k, lo = some y ∧ a.eval y = .int k l ∧ l ≤ hh) → len ≤ cap →
      (Instr.sliceBounds isS len cap (lo.map a.eval) (hi.map a.eval) none).run C.P w = .ok (l, hh, cap) w := by
    intro isS len cap l hh h1 h2 h3
    have sb : ∀ (k : IntKind) (n y : Nat) (c : BoundsCode), n ≤ y → (Instr.sliceBound (.int k n) y c).run C.P w = .ok n w := by
      intro k n y c hn
      simp only [Instr.sliceBound, asIntOf, Sem.run_bind, Sem.run_pure, Result.andThen_ok]
      rw [if_pos ⟨by omega, by omega⟩]
      simp
    rcases h1 with ⟨rfl, rfl⟩ | ⟨y, k, rfl, hy, hle⟩ <;> rcases h2 with ⟨rfl, rfl⟩ | ⟨z, k', rfl, hz, hle'⟩
    · rfl
    · simp only [Instr.sliceBounds, Option.map_none, Option.map_some, hz, Sem.run_bind, Sem.run_pure, Result.andThen_ok, sb k' l hh _ hle']
    · simp only [Instr.sliceBounds, Option.map_none, Option.map_some, hy, Sem.run_bind, Sem.run_pure, Result.andThen_ok, sb k hh cap _ (by omega)]
    · simp only [Instr.sliceBounds, Option.map_some, hy, hz, Sem.run_bind, Sem.run_pure, Result.andThen_ok, sb k hh cap _ (by omega), sb k' l hh _ hle']
  have bd2 : ∀ {l hh : Nat}, ((lo = none ∧ l = 0) ∨ ∃ y k, lo = some y ∧ a.eval y = .int k l ∧ l ≤ hh) → l ≤ hh := by
    intro l hh h
    rcases h with ⟨_, rfl⟩ | ⟨_, _, _, _, h⟩
    · omega
    · exact h
  split at hx
  · rename_i s hs
    obtain ⟨e, inf, h1, h2, rfl, hpos⟩ := elemSz_some hs
    split at hx
    · rename_i s' cs hl
      split at hx
      · rename_i hss
        subst hss
        split at hx
        · rename_i hh hhi
          split at hx
          · rename_i l hlo
            cases hx
            obtain ⟨⟨hcp, vs, hR, hm⟩, _⟩ := h.look hl
            cases hm
            obtain ⟨base, len, cap, hv, _, hlen, hcap, _, hb⟩ := RepL.one hR
            have hdiv : cs.length / inf.size = len := by rw [← hlen]; exact Nat.mul_div_cancel _ hpos
            rw [hdiv] at hhi
            have b1 := h.bnd hhi
            have b2 := h.bnd hlo
            have hle : hh ≤ len := by
              rcases b1 with ⟨_, rfl⟩ | ⟨_, _, _, _, h⟩
              · exact Nat.le_refl _
              · exact h
            have hl2 := bd2 b2
            have hrun : (execOp a.eval o).run C.P w = .ok (.value (.slice (if cap = l then base else base.map (fun x : Addr => x.add (l * inf.size))) (hh - l) (cap - l))) w := by
              unfold execOp
              rw [ho]
              refine wrapVal ?_
              simp only [hv, Instr.sliceAt, Sem.run_bind, run_underlying h1, Result.andThen_ok, Instr.slice, Option.map_none, bounds true len cap l hh b1 b2 hcap, run_sizeOf' h2, Sem.run_pure]
            have hmul : (hh - l) * inf.size + l * inf.size = hh * inf.size := by rw [← Nat.add_mul]; congr 1; omega
            have hmul2 : hh * inf.size ≤ cs.length := by rw [← hlen]; exact Nat.mul_le_mul_right _ hle
            refine ⟨_, hrun, ⟨?_, [_], Rep.one ⟨_, hh - l, cap - l, rfl, hpos, ?_, by omega, (fun _ hn => nomatch hn), ?_⟩, rfl⟩, fun i hi => nomatch hi⟩
            · simp only [cpyL, cpy, Option.isNone_none, Bool.true_and, Bool.and_true] at hcp ⊢
              exact (cpyL_take _ _ (cpyL_take cs _ hcp).2).1
            · rw [List.length_take, List.length_drop]; omega
            · cases base with
              | none =>
                obtain ⟨rfl, _⟩ := hb
                have : (if 0 = l then (none : Option Addr) else Option.map (fun x : Addr => x.add (l * inf.size)) none) = none := by split <;> rfl
                rw [this]
                exact ⟨by omega, rfl⟩
              | some ad =>
                obtain ⟨hsp, us, g, hRL, hcell, hg0, _, hA⟩ := hb
                subst hg0
                by_cases hcs : cs = []
                · subst hcs
                  have hb1 : ∃ ad', (if cap = l then some ad else Option.map (fun x : Addr => x.add (l * inf.size)) (some ad)) = some ad' := by split <;> exact ⟨_, rfl⟩
                  obtain ⟨ad', hb1⟩ := hb1
                  rw [hb1]
                  have hz : List.take ((hh - l) * inf.size) (List.drop (l * inf.size) ([] : List Cell)) = [] := by simp
                  rw [hz]
                  exact ⟨fun hn => (hn.elim (fun h => absurd rfl h) (fun h => absurd rfl h)), [], [], ⟨rfl, rfl⟩, (fun i u hi => by simp at hi), rfl, rfl, fun hne => absurd rfl hne⟩
                obtain ⟨ab, ao, asp⟩ := ad
                cases hsp (.inr hcs)
                obtain ⟨u1, u2, u3, G1, G2, G3, rfl, hlu1, hlu2, hG, k1, k2, k3⟩ := RepL.mid hRL (l * inf.size) ((hh - l) * inf.size) (by omega)
                have hG2 : G2 = [] := by
                  have := congrArg List.length hG
                  simp at this
                  exact List.eq_nil_of_length_eq_zero (by omega)
                subst hG2
                have hbase : ∃ ao', (if cap = l then some (⟨ab, ao, none⟩ : Addr) else Option.map (fun x : Addr => x.add (l * inf.size)) (some ⟨ab, ao, none⟩)) = some ⟨ab, ao', none⟩ ∧ (u2 ≠ [] → ao' = ao + l * inf.size) := by
                  by_cases hcl : cap = l
                  · refine ⟨ao, by rw [if_pos hcl], fun hne => absurd (List.eq_nil_of_length_eq_zero ?_) hne⟩
                    rw [hlu2]
                    have : hh - l = 0 := by omega
                    rw [this, Nat.zero_mul]
                  · exact ⟨_, by rw [if_neg hcl, Option.map_some, Addr.add_none], fun _ => rfl⟩
                obtain ⟨ao', hb1, hb2⟩ := hbase
                rw [hb1]
                refine ⟨fun _ => rfl, u2, [], k2, fun i u hi => ?_, rfl, rfl, fun hne => ?_⟩
                · have hlt := (List.getElem?_eq_some_iff.1 hi).1
                  have hne : u2 ≠ [] := by intro e; subst e; simp at hlt
                  have := hcell (l * inf.size + i) u (by
                    rw [List.append_assoc, List.getElem?_append_right (by omega), hlu1, List.getElem?_append_left (by omega)]
                    rw [show l * inf.size + i - l * inf.size = i by omega]
                    exact hi)
                  simp only at this ⊢
                  rw [hb2 hne, Nat.add_assoc]
                  exact this
                · refine hA ?_
                  intro e
                  subst e
                  simp at hne
          · cases hx
        · cases hx
      · cases hx
    · cases hx
  · split at hx
    · rename_i hst
      split at hx
      · rename_i b hs
        split at hx
        · rename_i hh hhi
          split at hx
          · rename_i l hlo
            cases hx
            have b1 := h.bnd hhi
            have b2 := h.bnd hlo
            refine h.sc1 rfl ?_
            unfold execOp
            rw [ho]
            refine wrapVal ?_
            rw [(h.scal hs).1]
            simp only [Instr.sliceAt, Sem.run_bind, run_underlying (isStr_some hst), Result.andThen_ok, Instr.slice, Option.map_none, Option.isSome_none, Bool.false_eq_true, if_false, bounds false b.size b.size l hh b1 b2 (Nat.le_refl _), Sem.run_pure]
          · cases hx
        · cases hx
      · cases hx
    · cases hx

theorem Sim.yMM (h : Sim C X a w L G) {big : Bool} {x y : Operand} {ts : Array TypeId} (ho : o.op = .call { callee := .builtin (if big then .max else .min), args := #[x, y], argTypes := ts }) {u v r : Value} (hu : Abs.scal X x = some u) (hv : Abs.scal X y = some v) (hr : mm2 big u v = some r) : Yld C X a w L G o (.dat false [.sc r]) := by
  unfold mm2 at hr
  split at hr
  · rename_i k m k' n
    cases hr
    refine h.sc1 rfl ?_
    unfold execOp
    rw [ho]
    cases big
    · simp only [Bool.false_eq_true, if_false, resolve, List.map_toArray, List.map_cons, List.map_nil, Sem.run_bind, Sem.run_pure, Result.andThen_ok, invoke, builtin, Builtin.min_, (h.scal hu).1, (h.scal hv).1, List.foldlM_cons, List.foldlM_nil, Builtin.min2]
    · simp only [if_true, resolve, List.map_toArray, List.map_cons, List.map_nil, Sem.run_bind, Sem.run_pure, Result.andThen_ok, invoke, builtin, Builtin.max_, (h.scal hu).1, (h.scal hv).1, List.foldlM_cons, List.foldlM_nil, Builtin.max2]
  · cases hr

theorem Sim.yV (h : Sim C X a w L G) (hx : evV C.P X o = some t) : Yld C X a w L G o t := by
  have hx0 := hx
  unfold evV at hx
  split at hx
  · rename_i x ho
    split at hx
    · cases hx
    · exact h.yMove (.inl ho) hx
  · rename_i x ho
    split at hx
    · cases hx
    · exact h.yMove (.inr ho) hx
  · rename_i c x y ho
    split at hx
    · rename_i hc; exact h.yPick ho hc hx
    · rename_i hc; exact h.yPick ho hc hx
    · cases hx
  · rename_i ho; exact h.yLoad ho hx
  · rename_i ho; exact h.yField ho hx
  · rename_i ho; exact h.yIndex ho hx
  · rename_i ho; exact h.yNil ho hx0
  · rename_i ho; exact h.yExtract ho hx0
  · rename_i ho; exact h.yFunc ho hx0
  · rename_i ho; exact h.yBin ho hx0
  · rename_i ho; exact h.yUn ho hx0
  · rename_i ho; exact h.yStrIx ho hx0
  · rename_i ho; exact h.ySlice ho hx0
  · rename_i ho; exact h.yConv ho hx0
  · rename_i ho; exact h.yLen ho hx
  · rename_i ho
    split at hx
    · rename_i u v hu hv
      cases hr : mm2 true u v with
      | none => rw [hr] at hx; cases hx
      | some r => rw [hr] at hx; cases hx; exact h.yMM (big := true) ho hu hv hr
    · cases hx
  · rename_i ho
    split at hx
    · rename_i u v hu hv
      cases hr : mm2 false u v with
      | none => rw [hr] at hx; cases hx
      | some r => rw [hr] at hx; cases hx; exact h.yMM (big := false) ho hu hv hr
    · cases hx
  · cases hx

end
end Go.Proofs.Ytppfilhlblnmcaa.Abs
/- An abstract machine for the walks, part 8: a place of an object is turned; cells move from one object to another. No condition. -/
set_option linter.unusedVariables false
namespace Go.Proofs.Ytppfilhlblnmcaa.Abs
open Go

/-- The world w' is as w but for the row at s, which now is vs. -/
def Turn (w w' : World) (n : Nat) (vs : List Value) : Src → Prop
  | .vals us => us = vs
  | .mem b o => ∃ c e, w.heap[b]? = some (.cells c e (0, 0)) ∧ o + n ≤ c.size ∧ vs.length = n ∧ w'.heap[b]? = some (.cells (c.toList.take o ++ vs ++ c.toList.drop (o + n)).toArray e (0, 0))
def Src.is : Src → Nat → Prop
  | .mem b _, k => b = k
  | .vals _, _ => False

def Ob.with : Ob → List Cell → Ob
  | .mem _, cs => .mem cs
  | .vir _, cs => .vir cs

/-- A row of an object, and what stays of the object when that row turns. -/
theorem ObRep.turn {w : World} {A : Nat → Prop} {hv : Nat → Value} {l : Loc} {o : Ob} {F : List Nat} (h : ObRep w A hv l o F) (hnd : F.Nodup) {q : Option (Nat × Nat)} {rs : List Cell} (hq : row q o.cells = some rs) :
    ∃ s vs Fa F2 Fb, SrcIs w l o.cells q s ∧ RepL w A hv rs vs F2 ∧ F = Fa ++ F2 ++ Fb ∧ (∀ (i : Nat) u, vs[i]? = some u → rd w s i = some u) ∧
      (∀ b o', s = .mem b o' → b ∈ Fa ∧ ∃ c e, w.heap[b]? = some (.cells c e (0, 0)) ∧ o' + rs.length ≤ c.size ∧ (c.toList.drop o').take rs.length = vs) ∧
      ∀ w' A' rs' vs' F2', RepL w' A' hv rs' vs' F2' → rs'.length = rs.length → Turn w w' rs.length vs' s → (∀ us, s = .vals us → vs' = vs) →
        (∀ b, b < w.heap.size → ¬ s.is b → (A b ∨ b ∈ Fa ∨ b ∈ Fb) → w'.heap[b]? = w.heap[b]?) → (∀ b, b < w.heap.size → A b → A' b ∧ ¬ s.is b) →
        ObRep w' A' hv l (o.with (setRow q o.cells rs')) (Fa ++ F2' ++ Fb) := by
  cases q with
  | none =>
    cases hq
    cases l with
    | blk b => cases o with
      | mem cs =>
        obtain ⟨d, e, g, h1, h2, rfl⟩ := h
        have hlen := RepL.length h2
        refine ⟨.mem b 0, d.toList, [b], g, [], rfl, h2, by simp, fun i u hi => ?_, fun b' o' hb => ?_, fun w' A' rs' vs' F2' hR hl ht _ hf hA => ?_⟩
        · simp only [rd, World.cell?, h1, Nat.zero_add]
          simpa using hi
        · cases hb
          refine ⟨by simp, d, e, h1, ?_, ?_⟩
          · simp only [Ob.cells] at *
            rw [← hlen]; simp
          · simp only [Ob.cells, List.drop_zero]
            rw [← hlen]
            exact List.take_length
        · obtain ⟨c, e', k1, k2, k3, k4⟩ := ht
          rw [h1] at k1
          cases k1
          refine ⟨_, _, F2', k4, ?_, by simp⟩
          simp only [setRow, Ob.cells, List.take_zero, List.nil_append, Nat.zero_add]
          simp only [Ob.cells] at hlen k3
          rw [← hlen, List.drop_length, List.append_nil]
          exact hR
      | vir cs => exact h.elim
    | vals vs => cases o with
      | mem cs => exact h.elim
      | vir cs =>
        refine ⟨.vals vs, vs, [], F, [], rfl, h, by simp, fun i u hi => hi, (fun b o' hb => nomatch hb), fun w' A' rs' vs' F2' hR hl ht hv' hf hA => ?_⟩
        have := hv' vs rfl
        subst this
        simp only [List.nil_append, List.append_nil]
        exact hR
  | some ci =>
    obtain ⟨c, i⟩ := ci
    simp only [row] at hq
    split at hq
    · rename_i k s ds hc
      split at hq
      · rename_i hle
        cases hq
        -- the root, and how the object comes back
        have hroot : ∃ vs g H1, RepL w A hv o.cells vs g ∧ F = H1 ++ g ∧ (∀ (i : Nat) u, vs[i]? = some u → rd w l.src i = some u) ∧
            ∀ w' A' cs' g', RepL w' A' hv cs' vs g' → (∀ b ∈ H1, w'.heap[b]? = w.heap[b]?) → ObRep w' A' hv l (o.with cs') (H1 ++ g') := by
          cases l with
          | blk b => cases o with
            | mem cs =>
              obtain ⟨d, e, g, h1, h2, rfl⟩ := h
              refine ⟨d.toList, g, [b], h2, by simp, fun i u hi => ?_, fun w' A' cs' g' hR hb => ⟨d, e, g', by rw [hb b (by simp)]; exact h1, hR, by simp⟩⟩
              simp only [Loc.src, rd, World.cell?, h1, Nat.zero_add]
              simpa using hi
            | vir cs => exact h.elim
          | vals vs => cases o with
            | mem cs => exact h.elim
            | vir cs => exact ⟨vs, F, [], h, by simp, fun i u hi => hi, fun w' A' cs' g' hR hb => by simpa [ObRep, Ob.with] using hR⟩
        obtain ⟨vs, g, H1, hR, rfl, hrd, hback⟩ := hroot
        obtain ⟨v, v1, v2, F1, F2, F3, hvs, hl1, hcv, rfl, r1, r2, r3⟩ := RepL.at hR hc
        obtain ⟨base, len, cap, rfl, hs, hl, hcap, hm, hb⟩ := r2
        cases base with
        | none =>
          obtain ⟨rfl, _⟩ := hb
          have h0 : ds.length = 0 := by rw [← hl]; have : len = 0 := by omega
                                        rw [this, Nat.zero_mul]
          have : (i + 1) * s = i * s + s := Nat.succ_mul i s
          omega
        | some a =>
          obtain ⟨hsp, us, G, hRL, hcell, ha0, rfl, c0, e0, hblk, hsz⟩ := hb
          have hle' : i * s + s ≤ ds.length := by rw [← Nat.succ_mul]; exact hle
          obtain ⟨u1, u2, u3, G1, G2, G3, rfl, hlu1, hlu2, rfl, k1, k2, k3⟩ := RepL.mid hRL (i * s) s hle'
          have hrlen : ((ds.drop (i * s)).take s).length = s := by rw [List.length_take, List.length_drop]; omega
          have hulen := RepL.length hRL
          -- the array's beginning
          have hpre : ∀ (j : Nat) (u : Value), (u1 ++ u2 ++ u3)[j]? = some u → c0[j]? = some u := by
            intro j u hj
            have := hcell j u hj
            rw [ha0, Nat.zero_add] at this
            simpa [World.cell?, hblk] using this
          have hcle : ds.length ≤ c0.size := by rw [hsz, ← hl]; exact Nat.mul_le_mul_right _ hcap
          have hc0 : c0.toList.take ds.length = u1 ++ u2 ++ u3 := by
            apply List.ext_getElem?
            intro j
            rw [List.getElem?_take]
            by_cases hj : j < ds.length
            · rw [if_pos hj]
              have hj2 : j < (u1 ++ u2 ++ u3).length := by rw [hulen]; exact hj
              have := hpre j _ (List.getElem?_eq_getElem hj2)
              rw [List.getElem?_eq_getElem hj2, ← this]
              simp
            · rw [if_neg hj, List.getElem?_eq_none (by rw [hulen]; omega)]
          have hc0' : c0.toList = u1 ++ u2 ++ u3 ++ c0.toList.drop ds.length := by
            rw [← hc0, List.take_append_drop]
          refine ⟨.mem a.block (i * s), u2, H1 ++ F1 ++ (a.block :: G1), G2, G3 ++ F3, ⟨k, s, ds, a, len, cap, hc, hrd c _ hcv, rfl⟩, k2, by simp, fun j u hj => ?_, fun b o' hbo => ?_, fun w' A' rs' vs' F2' hR' hlr ht _ hf hA => ?_⟩
          · have hlt : j < u2.length := (List.getElem?_eq_some_iff.1 hj).1
            have h5 := hcell (i * s + j) u (by
              rw [List.append_assoc, List.getElem?_append_right (by omega), hlu1, List.getElem?_append_left (by omega)]
              rw [show i * s + j - i * s = j by omega]
              exact hj)
            rw [ha0, Nat.zero_add] at h5
            exact h5
          · cases hbo
            refine ⟨by simp, c0, e0, hblk, by rw [hrlen]; omega, ?_⟩
            rw [hrlen, hc0', List.append_assoc, List.append_assoc, ← hlu1, List.drop_left, ← hlu2, List.take_left]
          · rw [hrlen] at ht hlr
            obtain ⟨c1, e1, t1, t2, t3, t4⟩ := ht
            rw [hblk] at t1
            cases t1
            have hnd1 : (F1 ++ (a.block :: (G1 ++ G2 ++ G3)) ++ F3).Nodup := (List.nodup_append.1 hnd).2.1
            have hblkH : a.block ∉ H1 := fun hb => (List.nodup_append.1 hnd).2.2 _ hb _ (by simp) rfl
            have hblkF1 : a.block ∉ F1 := fun hb => (List.nodup_append.1 (List.nodup_append.1 hnd1).1).2.2 _ hb _ List.mem_cons_self rfl
            have hblkF3 : a.block ∉ F3 := fun hb => (List.nodup_append.1 hnd1).2.2 a.block (by simp) _ hb rfl
            have hblkG := (List.nodup_cons.1 (List.nodup_append.1 (List.nodup_append.1 hnd1).1).2.1).1
            have hlt : ∀ b ∈ H1 ++ (F1 ++ (a.block :: (G1 ++ G2 ++ G3)) ++ F3), b < w.heap.size := fun b hb => h.lt b hb
            have hkeep : ∀ b ∈ H1 ++ F1 ++ F3 ++ G1 ++ G3, w'.heap[b]? = w.heap[b]? := by
              intro b hb
              have hne : a.block ≠ b := by
                intro e
                subst e
                simp only [List.mem_append] at hb
                rcases hb with (((hb | hb) | hb) | hb) | hb
                · exact hblkH hb
                · exact hblkF1 hb
                · exact hblkF3 hb
                · exact hblkG (by simp [hb])
                · exact hblkG (by simp [hb])
              refine hf b (hlt b ?_) (fun hi => hne hi) ?_
              · simp only [List.mem_append, List.mem_cons] at hb ⊢
                rcases hb with (((hb | hb) | hb) | hb) | hb <;> simp [hb]
              · simp only [List.mem_append, List.mem_cons] at hb ⊢
                rcases hb with (((hb | hb) | hb) | hb) | hb <;> simp [hb]
            have hfr : ∀ (cs' : List Cell) (vv : List Value) (FF : List Nat), RepL w A hv cs' vv FF → (∀ b ∈ FF, b ∈ H1 ++ F1 ++ F3 ++ G1 ++ G3) → RepL w' A' hv cs' vv FF := by
              intro cs' vv FF hx hin
              refine RepL.frame _ _ _ hx (fun b hb hc => ?_) (fun b hb hc => (hA b hb hc).1)
              rcases hc with hc | hc
              · exact hf b hb (hA b hb hc).2 (.inl hc)
              · exact hkeep b (hin b hc)
            have hcs : setRow (some (c, i)) o.cells rs' = o.cells.take c ++ (Cell.sl (some k) s (ds.take (i * s) ++ rs' ++ ds.drop ((i + 1) * s)) :: o.cells.drop (c + 1)) := by
              simp only [setRow, hc]
              exact List.set_eq_take_append_cons_drop.trans (by rw [if_pos (List.getElem?_eq_some_iff.1 hc).1])
            rw [hcs]
            have hnew : RepL w' A' hv (ds.take (i * s) ++ rs' ++ ds.drop ((i + 1) * s)) (u1 ++ vs' ++ u3) (G1 ++ F2' ++ G3) := by
              refine RepL.append (RepL.append (hfr _ _ _ k1 (fun b hb => by simp [hb])) hR') ?_
              rw [Nat.succ_mul]
              exact hfr _ _ _ k3 (fun b hb => by simp [hb])
            have hcells : ∀ (j : Nat) u, (u1 ++ vs' ++ u3)[j]? = some u → w'.cell? ⟨a.block, a.off + j, none⟩ = some u := by
              intro j u hj
              rw [ha0, Nat.zero_add]
              simp only [World.cell?, t4]
              have e1 : c0.toList.take (i * s) = u1 := by rw [hc0', List.append_assoc, List.append_assoc, ← hlu1, List.take_left]
              have e2 : c0.toList.drop (i * s + s) = u3 ++ c0.toList.drop ds.length := by
                have hx := congrArg (List.drop (i * s + s)) hc0'
                rw [hx]
                generalize c0.toList.drop ds.length = tl
                rw [show u1 ++ u2 ++ u3 ++ tl = (u1 ++ u2) ++ (u3 ++ tl) by simp, show i * s + s = (u1 ++ u2).length by rw [List.length_append, hlu1, hlu2], List.drop_left]
              rw [e1, e2]
              have hlt := (List.getElem?_eq_some_iff.1 hj).1
              simp only [Option.isSome_none, Bool.false_eq_true, if_false]
              rw [List.getElem?_toArray, ← List.append_assoc, List.getElem?_append_left hlt]
              exact hj
            have hbl : w'.heap[a.block]? = some (.cells (c0.toList.take (i * s) ++ vs' ++ c0.toList.drop (i * s + s)).toArray e0 (0, 0)) := t4
            have hsz' : (c0.toList.take (i * s) ++ vs' ++ c0.toList.drop (i * s + s)).toArray.size = cap * s := by
              rw [← hsz]
              simp only [List.size_toArray, List.length_append, List.length_take, List.length_drop, Array.length_toList]
              omega
            have hslice : Rep w' A' hv (.sl (some k) s (ds.take (i * s) ++ rs' ++ ds.drop ((i + 1) * s))) (.slice (some a) len cap) (a.block :: (G1 ++ F2' ++ G3)) :=
              ⟨some a, len, cap, rfl, hs, by rw [hl, Nat.succ_mul]; simp only [List.length_append, List.length_take, List.length_drop]; omega, hcap, hm, fun _ => hsp (.inl (fun h => nomatch h)), _, _, hnew, hcells, ha0, rfl, _, _, hbl, hsz'⟩
            have hroot' : RepL w' A' hv (o.cells.take c ++ (Cell.sl (some k) s (ds.take (i * s) ++ rs' ++ ds.drop ((i + 1) * s)) :: o.cells.drop (c + 1))) vs (F1 ++ ((a.block :: (G1 ++ F2' ++ G3)) ++ F3)) := by
              rw [hvs]
              exact RepL.append (hfr _ _ _ r1 (fun b hb => by simp [hb])) ⟨_, _, _, _, rfl, rfl, hslice, hfr _ _ _ r3 (fun b hb => by simp [hb])⟩
            have := hback w' A' _ _ hroot' (fun b hb => hkeep b (by simp [hb]))
            simpa using this
      · cases hq
    · cases hq

end Go.Proofs.Ytppfilhlblnmcaa.Abs
/- An abstract machine for the walks, part 9: cells are moved out of an object, and gathered. No condition. -/
set_option linter.unusedVariables false
namespace Go.Proofs.Ytppfilhlblnmcaa.Abs
open Go

theorem over_length {cs ds : List Cell} {j : Nat} (h : j + ds.length ≤ cs.length) : (over cs j ds).length = cs.length := by
  simp only [over, List.length_append, List.length_take, List.length_drop]
  omega

def holeAt (o : Ob) (q : Option (Nat × Nat)) (j n : Nat) : Ob :=
  match row q o.cells with
  | some rs => o.with (setRow q o.cells (over rs j (List.replicate n .hole)))
  | none => o

theorem with_cells (o : Ob) (cs : List Cell) : (o.with cs).cells = cs := by cases o <;> rfl

theorem over_hole {rs : List Cell} {j n c : Nat} {k : Option Nat} {s : Nat} {ds : List Cell} (hle : j + n ≤ rs.length) (h : (over rs j (List.replicate n .hole))[c]? = some (.sl k s ds)) : rs[c]? = some (.sl k s ds) := by
  unfold over at h
  rw [List.length_replicate] at h
  by_cases h1 : c < j
  · rw [List.append_assoc, List.getElem?_append_left (by simp; omega), List.getElem?_take, if_pos h1] at h
    exact h
  · by_cases h2 : c < j + n
    · rw [List.append_assoc, List.getElem?_append_right (by simp; omega), List.getElem?_append_left (by simp; omega), List.getElem?_replicate] at h
      split at h <;> cases h
    · rw [List.getElem?_append_right (by simp; omega), List.getElem?_drop] at h
      rw [← h]
      congr 1
      simp
      omega

theorem holeAt_wk {o : Ob} {q : Option (Nat × Nat)} {j n : Nat} {rs : List Cell} (hq : row q o.cells = some rs) (hle : j + n ≤ rs.length) : Wk (holeAt o q j n) o := by
  intro q' rs' h'
  simp only [holeAt, hq, with_cells] at h'
  have hlen : (over rs j (List.replicate n .hole)).length = rs.length := over_length (by simpa using hle)
  cases q with
  | none =>
    cases hq
    simp only [setRow] at h'
    cases q' with
    | none =>
      cases h'
      refine ⟨o.cells, rfl, hlen, fun w l s hs => ?_⟩
      exact hs
    | some ci =>
      obtain ⟨c, i⟩ := ci
      simp only [row] at h'
      split at h'
      · rename_i k s ds hc
        have hc' := over_hole hle hc
        split at h'
        · rename_i hle2
          cases h'
          refine ⟨_, by simp only [row, hc']; exact if_pos hle2, rfl, fun w l s' hs => ?_⟩
          obtain ⟨k', st, ds', a, len, cap, h1, h2, rfl⟩ := hs
          rw [hc'] at h1
          cases h1
          exact ⟨_, _, _, a, len, cap, by simp only [holeAt, row, with_cells, setRow]; exact hc, h2, rfl⟩
        · cases h'
      · cases h'
  | some ci0 =>
    obtain ⟨c0, i0⟩ := ci0
    have hq0 := hq
    simp only [row] at hq
    split at hq
    · rename_i k0 s0 ds0 hc0
      split at hq
      · rename_i hle0
        have hrs : (ds0.drop (i0 * s0)).take s0 = rs := Option.some.inj hq
        have hrl : rs.length = s0 := by
          rw [← hrs, List.length_take, List.length_drop]
          have : (i0 + 1) * s0 = i0 * s0 + s0 := Nat.succ_mul i0 s0
          omega
        have hset : setRow (some (c0, i0)) o.cells (over rs j (List.replicate n .hole)) = o.cells.set c0 (.sl (some k0) s0 (ds0.take (i0 * s0) ++ over rs j (List.replicate n .hole) ++ ds0.drop ((i0 + 1) * s0))) := by
          simp only [setRow, hc0]
        have hdl : (ds0.take (i0 * s0) ++ over rs j (List.replicate n .hole) ++ ds0.drop ((i0 + 1) * s0)).length = ds0.length := by
          have : (i0 + 1) * s0 = i0 * s0 + s0 := Nat.succ_mul i0 s0
          simp only [List.length_append, List.length_take, List.length_drop, hlen, hrl]
          omega
        have hcells : (holeAt o (some (c0, i0)) j n).cells = o.cells.set c0 (.sl (some k0) s0 (ds0.take (i0 * s0) ++ over rs j (List.replicate n .hole) ++ ds0.drop ((i0 + 1) * s0))) := by
          simp only [holeAt, hq0, with_cells, hset]
        rw [hset] at h'
        have hlt := (List.getElem?_eq_some_iff.1 hc0).1
        cases q' with
        | none =>
          cases h'
          refine ⟨o.cells, rfl, by simp, fun w l s hs => hs⟩
        | some ci =>
          obtain ⟨c, i⟩ := ci
          simp only [row] at h' ⊢
          by_cases e : c0 = c
          · subst e
            rw [List.getElem?_set_self hlt] at h'
            simp only at h'
            split at h'
            · rename_i hle2
              cases h'
              refine ⟨_, by rw [hc0]; exact if_pos (by rw [← hdl]; exact hle2), ?_, fun w l s' hs => ?_⟩
              · simp only [List.length_take, List.length_drop, hdl]
              · obtain ⟨k', st, ds', a, len, cap, h1, h2, rfl⟩ := hs
                rw [hc0] at h1
                cases h1
                exact ⟨_, _, _, a, len, cap, by rw [hcells, List.getElem?_set_self hlt], h2, rfl⟩
            · cases h'
          · rw [List.getElem?_set_ne e] at h'
            split at h'
            · rename_i k s ds hc
              split at h'
              · rename_i hle2
                cases h'
                refine ⟨_, if_pos hle2, rfl, fun w l s' hs => ?_⟩
                obtain ⟨k', st, ds', a, len, cap, h1, h2, rfl⟩ := hs
                exact ⟨k', st, ds', a, len, cap, by rw [hcells, List.getElem?_set_ne e]; exact h1, h2, rfl⟩
              · cases h'
            · cases h'
      · cases hq
    · cases hq

theorem RepL.holes {w : World} {A : Nat → Prop} {hv : Nat → Value} : ∀ (us : List Value), (∀ u ∈ us, Abs.flat u = true) → RepL w A hv (List.replicate us.length .hole) us []
  | [], _ => ⟨rfl, rfl⟩
  | u :: us, h => ⟨u, us, [], [], rfl, rfl, ⟨h u List.mem_cons_self, rfl⟩, RepL.holes us (fun x hx => h x (List.mem_cons_of_mem _ hx))⟩

section
variable {C : Cx} {X : St} {a : Act} {w : World} {L : Nat → Loc} {G : Nat → List Nat}

def Unref (X : St) (i : Nat) : Prop := ∀ t x, lk X.env t = some x → i ∉ refs x

/-- Cells are moved out of a place to the end of an object that nobody speaks of. -/
theorem Sim.mv (h : Sim C X a w L G) {slot id : Nat} {q : Option (Nat × Nat)} {j n : Nat} {ds cs0 : List Cell} {vs0 : List Value} (hs : lk X.sg slot = some (.vir cs0)) (hL : L slot = .vals vs0) (hun : Unref X slot) (hne : id ≠ slot) (hc : Abs.cont X id q j n = some ds) :
    ∃ ob rs s us G', lk X.sg id = some ob ∧ row q ob.cells = some rs ∧ j + n ≤ rs.length ∧ SrcIs w (L id) ob.cells q s ∧ us.length = n ∧ (∀ i, i < n → rd w s (j + i) = us[i]?) ∧ (∀ u ∈ us, flat u = true) ∧
      Sim C { X with sg := ins (ins X.sg id (holeAt ob q j n)) slot (.vir (cs0 ++ ds)) } a w (upd L slot (.vals (vs0 ++ us))) G' ∧ (∀ b, C.A G b → C.A G' b) := by
  unfold Abs.cont at hc
  split at hc
  · cases hc
  · rename_i ob ho
    split at hc
    · cases hc
    · rename_i rs hrs
      split at hc
      · rename_i hle
        cases hc
        have hob := h.ob id ob ho
        obtain ⟨s, vs, Fa, F2, Fb, k1, k2, k3, k4, k5, k6⟩ := hob.turn (h.nd id) hrs
        obtain ⟨v1, us, v3, f1, f2, f3, rfl, hl1, hl2, rfl, r1, r2, r3⟩ := RepL.mid k2 j n hle
        have hflat : ∀ u ∈ us, flat u = true := RepL.flat r2
        let G' := upd (upd G id (Fa ++ (f1 ++ f3) ++ Fb)) slot (G slot ++ f2)
        have hGid : G' id = Fa ++ (f1 ++ f3) ++ Fb := by simp only [G']; rw [upd_ne _ _ hne, upd_self]
        have hGs : G' slot = G slot ++ f2 := upd_self _ _ _
        have hGo : ∀ i, i ≠ id → i ≠ slot → G' i = G i := fun i h1 h2 => by simp only [G']; rw [upd_ne _ _ h2, upd_ne _ _ h1]
        -- every block of G' is a block of G
        have hsub : ∀ i b, b ∈ G' i → ∃ k, b ∈ G k := by
          intro i b hb
          by_cases e : i = slot
          · subst e
            rw [hGs] at hb
            rcases List.mem_append.1 hb with hb | hb
            · exact ⟨_, hb⟩
            · exact ⟨id, by rw [k3]; simp [hb]⟩
          · by_cases e2 : i = id
            · subst e2
              rw [hGid] at hb
              refine ⟨i, ?_⟩
              rw [k3]
              simp only [List.mem_append] at hb ⊢
              rcases hb with (hb | hb | hb) | hb <;> simp [hb]
            · rw [hGo i e2 e] at hb
              exact ⟨i, hb⟩
        have hA : ∀ b, C.A G b → C.A G' b := fun b hb => ⟨hb.1, fun i hi => by obtain ⟨k, hk⟩ := hsub i b hi; exact hb.2 k hk⟩
        have hnd := h.nd id
        rw [k3] at hnd
        have hmov : ∀ (cs' : List Cell) (vv : List Value) (FF : List Nat), RepL w (C.A G) C.hv cs' vv FF → RepL w (C.A G') C.hv cs' vv FF := fun cs' vv FF hx => RepL.frame _ _ _ hx (fun _ _ _ => rfl) (fun b _ hb => hA b hb)
        have hholed : ObRep w (C.A G') C.hv (L id) (holeAt ob q j n) (Fa ++ (f1 ++ f3) ++ Fb) := by
          have hover : RepL w (C.A G') C.hv (over rs j (List.replicate n .hole)) (v1 ++ us ++ v3) (f1 ++ f3) := by
            have := RepL.append (RepL.append (hmov _ _ _ r1) (RepL.holes (w := w) (A := C.A G') (hv := C.hv) us hflat)) (hmov _ _ _ r3)
            rw [List.append_nil] at this
            simp only [over, List.length_replicate]
            rw [← hl2]
            rw [← hl2] at this
            exact this
          have hlenr := RepL.length k2
          have := k6 w (C.A G') _ _ _ hover (over_length (by simpa using hle)) ?_ (fun us' hu => rfl) (fun _ _ _ _ => rfl) (fun b hb hAb => ⟨hA b hAb, fun hi => ?_⟩)
          · simp only [holeAt, hrs]; exact this
          · cases s with
            | vals vs' =>
              cases q with
              | none =>
                have hls : Src.vals vs' = (L id).src := k1
                cases hLi : L id with
                | blk b => rw [hLi] at hls; cases hls
                | vals vv =>
                  rw [hLi] at hls
                  cases hls
                  -- the row is the object's own
                  cases hrs
                  apply List.ext_getElem?
                  intro i
                  by_cases hi : i < (v1 ++ us ++ v3).length
                  · have := k4 i _ (List.getElem?_eq_getElem hi)
                    rw [List.getElem?_eq_getElem hi]
                    exact this
                  · have h8 : vs'.length = (v1 ++ us ++ v3).length := by
                      rw [hLi] at hob
                      cases ob with
                      | mem _ => exact hob.elim
                      | vir cs =>
                        have h8 : vs'.length = cs.length := RepL.length hob
                        have h7 : (v1 ++ us ++ v3).length = cs.length := hlenr
                        omega
                    rw [List.getElem?_eq_none (by omega), List.getElem?_eq_none (by omega)]
              | some ci => obtain ⟨_, _, _, _, _, _, _, _, e⟩ := k1; cases e
            | mem b o' =>
              obtain ⟨_, c, e, g1, g2, g3⟩ := k5 b o' rfl
              refine ⟨c, e, g1, g2, hlenr, ?_⟩
              rw [g1]
              have : (c.toList.take o' ++ (v1 ++ us ++ v3) ++ c.toList.drop (o' + rs.length)).toArray = c := by
                rw [← g3, ← List.drop_drop, List.append_assoc, List.take_append_drop, List.take_append_drop]
              rw [this]
          · cases s with
            | vals _ => exact hi
            | mem b' o' =>
              cases hi
              exact hAb.2 id (by rw [k3]; simp [(k5 _ _ rfl).1])
        have hslot : ObRep w (C.A G') C.hv (.vals (vs0 ++ us)) (.vir (cs0 ++ (rs.drop j).take n)) (G slot ++ f2) := by
          have h0 := h.ob slot _ hs
          rw [hL] at h0
          exact RepL.append (hmov _ _ _ h0) (hmov _ _ _ r2)
        refine ⟨ob, rs, s, us, G', ho, hrs, hle, k1, hl2, fun i hi => ?_, hflat, ?_, hA⟩
        · have hlt : i < us.length := by omega
          rw [List.getElem?_eq_getElem hlt]
          refine k4 (j + i) _ ?_
          rw [List.append_assoc, List.getElem?_append_right (by omega), List.getElem?_append_left (by omega)]
          rw [show j + i - v1.length = i by omega]
          exact List.getElem?_eq_getElem _
        · have hdis : ∀ b, b ∈ f2 → b ∉ Fa ++ (f1 ++ f3) ++ Fb := by
            intro b hb hb2
            have hnd2 := hnd
            simp only [List.mem_append] at hb2
            rw [List.nodup_append, List.nodup_append, List.nodup_append, List.nodup_append] at hnd2
            obtain ⟨⟨n1, ⟨⟨n2, n3, n4⟩, n5, n6⟩, n7⟩, n8, n9⟩ := hnd2
            rcases hb2 with (hb2 | hb2 | hb2) | hb2
            · exact n7 b hb2 b (by simp [hb]) rfl
            · exact n4 b hb2 b hb rfl
            · exact n6 b (by simp [hb]) b hb2 rfl
            · exact n9 b (by simp [hb]) b hb2 rfl
          have hf2in : ∀ b ∈ f2, b ∈ G id := fun b hb => by rw [k3]; simp [hb]
          have hrestin : ∀ b ∈ Fa ++ (f1 ++ f3) ++ Fb, b ∈ G id := fun b hb => by
            rw [k3]
            simp only [List.mem_append] at hb ⊢
            rcases hb with (hb | hb | hb) | hb <;> simp [hb]
          refine { ob := ?_, no := ?_, nd := ?_, dj := ?_, own := ?_, en := ?_, rf := ?_, fr := h.fr, df := h.df, fx := h.fx, nt := h.nt }
          · intro i o hi
            rw [lk_ins] at hi
            by_cases e : slot = i
            · subst e
              rw [if_pos rfl] at hi
              cases hi
              rw [upd_self, hGs]
              exact hslot
            · rw [if_neg e, lk_ins] at hi
              rw [upd_ne _ _ (Ne.symm e)]
              by_cases e2 : id = i
              · subst e2
                rw [if_pos rfl] at hi
                cases hi
                rw [hGid]
                exact hholed
              · rw [if_neg e2] at hi
                rw [hGo i (Ne.symm e2) (Ne.symm e)]
                exact (h.ob i o hi).frame (fun _ _ _ => rfl) (fun b _ hb => hA b hb)
          · intro i hi
            rw [lk_ins] at hi
            by_cases e : slot = i
            · rw [if_pos e] at hi; cases hi
            · rw [if_neg e, lk_ins] at hi
              by_cases e2 : id = i
              · rw [if_pos e2] at hi; cases hi
              · rw [if_neg e2] at hi
                rw [hGo i (Ne.symm e2) (Ne.symm e)]
                exact h.no i hi
          · intro i
            by_cases e : i = slot
            · subst e
              rw [hGs, List.nodup_append]
              refine ⟨h.nd i, ?_, fun x hx y hy hxy => ?_⟩
              · rw [List.nodup_append, List.nodup_append, List.nodup_append, List.nodup_append] at hnd
                exact hnd.1.2.1.1.2.1
              · subst hxy
                exact hne (h.dj id i x (hf2in x hy) hx)
            · by_cases e2 : i = id
              · subst e2
                rw [hGid]
                refine List.Nodup.sublist ?_ hnd
                refine List.Sublist.append (List.Sublist.append (List.Sublist.refl _) ?_) (List.Sublist.refl _)
                exact List.Sublist.append (List.sublist_append_left f1 f2) (List.Sublist.refl _)
              · rw [hGo i e2 e]; exact h.nd i
          · intro i k b hi hk
            have key : ∀ i b, b ∈ G' i → (i = slot ∧ b ∈ f2) ∨ (b ∈ G i ∧ (i = id → b ∉ f2)) := by
              intro i b hb
              by_cases e : i = slot
              · subst e
                rw [hGs] at hb
                rcases List.mem_append.1 hb with hb | hb
                · exact .inr ⟨hb, fun e => absurd e.symm hne⟩
                · exact .inl ⟨rfl, hb⟩
              · by_cases e2 : i = id
                · subst e2
                  rw [hGid] at hb
                  exact .inr ⟨hrestin b hb, fun _ hf => hdis b hf hb⟩
                · rw [hGo i e2 e] at hb
                  exact .inr ⟨hb, fun e => absurd e e2⟩
            rcases key i b hi with ⟨rfl, h1⟩ | ⟨h1, h1'⟩ <;> rcases key k b hk with ⟨rfl, h2⟩ | ⟨h2, h2'⟩
            · rfl
            · have := h.dj _ _ b (hf2in b h1) h2
              exact absurd h1 (h2' this.symm)
            · have := h.dj _ _ b (hf2in b h2) h1
              exact absurd h2 (h1' this.symm)
            · exact h.dj i k b h1 h2
          · intro i b hb
            obtain ⟨k, hk⟩ := hsub i b hb
            exact h.own k b hk
          · intro t x hx
            refine RepT.frame (fun b _ hb => ⟨hA b hb, rfl⟩) h.ob x _ (h.en t x hx) (fun i hi o' ho' => ?_)
            have hni : i ≠ slot := fun e => hun t x hx (e ▸ hi)
            rw [lk_ins, if_neg (Ne.symm hni), lk_ins] at ho'
            by_cases e2 : id = i
            · subst e2
              rw [if_pos rfl] at ho'
              cases ho'
              refine ⟨ob, ho, upd_ne _ _ hni, fun cs' e => ?_, .inr (.inr ⟨holeAt_wk hrs hle, fun _ _ => rfl⟩)⟩
              cases ob with
              | mem cs => exact ⟨cs, rfl⟩
              | vir cs => simp [holeAt, hrs, Ob.with] at e
            · rw [if_neg e2] at ho'
              exact ⟨o', ho', upd_ne _ _ hni, fun cs e => ⟨cs, e⟩, .inr (.inr ⟨.refl _, fun _ _ => rfl⟩)⟩
          · intro t x hx i hi
            have h1 := h.rf t x hx i hi
            show lk (ins (ins X.sg id _) slot _) i ≠ none
            rw [lk_ins]
            split
            · simp
            · rw [lk_ins]
              split
              · simp
              · exact h1
      · cases hc

end
end Go.Proofs.Ytppfilhlblnmcaa.Abs
/- An abstract machine for the walks, part 10: operands are gathered; operations that make objects. No condition. -/
set_option linter.unusedVariables false
namespace Go.Proofs.Ytppfilhlblnmcaa.Abs
open Go

/-- The operands' cells, moved to the end of object `slot`, each of so many cells. -/
def gath (X : St) (slot : Nat) : List (Operand × Option Nat) → Option St
  | [] => some X
  | (x, e) :: r => match lk X.sg slot with
    | some (.vir cs0) => match look X x with
      | some (.dat _ cs) => if e = none ∨ e = some cs.length then gath { X with sg := ins X.sg slot (.vir (cs0 ++ cs)) } slot r else none
      | some (.bor id q j n _) => if id = slot ∨ ¬ (e = none ∨ e = some n) then none else match cont X id q j n, lk X.sg id with
        | some ds, some ob => gath { X with sg := ins (ins X.sg id (holeAt ob q j n)) slot (.vir (cs0 ++ ds)) } slot r
        | _, _ => none
      | _ => none
    | _ => none

theorem mkv_cells {g : Bool} {vs : List Value} {v : Value} (h : mkv g vs v) (hf : ∀ u ∈ vs, flat u = true) : v.cells.toList = vs := by
  cases g with
  | true => rw [show v = _ from h]; rfl
  | false =>
    cases h
    have := hf v List.mem_cons_self
    cases v <;> first | rfl | (simp [Value.oneCell'] at this)

section
variable {C : Cx} {X : St} {a : Act} {w : World} {L : Nat → Loc} {G : Nat → List Nat}

theorem Sim.gath {slot : Nat} : ∀ (xs : List (Operand × Option Nat)) (X X' : St) (L : Nat → Loc) (G : Nat → List Nat) (cs0 : List Cell) (vs0 : List Value), Sim C X a w L G → lk X.sg slot = some (.vir cs0) → L slot = .vals vs0 → Unref X slot → gath X slot xs = some X' →
    ∃ L' G' cs', Sim C X' a w L' G' ∧ lk X'.sg slot = some (.vir (cs0 ++ cs')) ∧ L' slot = .vals (vs0 ++ (xs.map fun x => (a.eval x.1).cells.toList).flatten) ∧ Unref X' slot ∧ X'.env = X.env ∧ (∀ i, lk X'.sg i = none ↔ lk X.sg i = none) ∧ (∀ x ∈ xs, ∀ n, x.2 = some n → (a.eval x.1).cells.size = n)
  | [], X, X', L, G, cs0, vs0, h, hs, hL, hu, hg => by
    cases hg
    exact ⟨L, G, [], h, by simpa using hs, by simpa using hL, hu, rfl, fun _ => Iff.rfl, fun x hx => nomatch hx⟩
  | (x, e) :: r, X, X', L, G, cs0, vs0, h, hs, hL, hu, hg => by
    unfold Abs.gath at hg
    rw [hs] at hg
    simp only at hg
    split at hg
    · rename_i g cs hl
      split at hg
      · rename_i he
        obtain ⟨⟨hcp, vs, hR, hm⟩, _⟩ := h.look hl
        have hcells := mkv_cells hm (RepL.flat hR)
        have h0 := h.ob slot _ hs
        rw [hL] at h0
        have h1 := h.chg slot (.vir (cs0 ++ cs)) (.vals (vs0 ++ vs)) (G slot) (w' := w) (.refl _ _) (h.nd slot) (fun b hb => .inl hb) (by
          have e : upd G slot (G slot) = G := by funext i; by_cases hi : i = slot <;> simp [upd, hi]
          rw [e]
          have := RepL.append h0 hR
          rw [List.append_nil] at this
          exact this) (fun t y hy hr => absurd hr (hu t y hy))
        obtain ⟨L', G', cs', k1, k2, k3, k4, k5, k6, k7⟩ := Sim.gath r _ X' _ _ (cs0 ++ cs) (vs0 ++ vs) h1 (by rw [lk_ins, if_pos rfl]) (upd_self _ _ _) hu hg
        refine ⟨L', G', cs ++ cs', k1, by rw [k2, List.append_assoc], by rw [k3, List.map_cons, List.flatten_cons, hcells, List.append_assoc], k4, k5, fun i => (k6 i).trans ?_, ?_⟩
        · rw [lk_ins]
          by_cases e : slot = i
          · subst e; simp [hs]
          · rw [if_neg e]
        · intro y hy n hn
          rcases List.mem_cons.1 hy with rfl | hy
          · simp only at hn
            subst hn
            rcases he with he | he
            · cases he
            · cases he
              rw [← Array.length_toList, hcells, RepL.length hR]
          · exact k7 y hy n hn
      · cases hg
    · rename_i id q j n g hl
      split at hg
      · cases hg
      · rename_i hne
        split at hg
        · rename_i ds ob hc hob
          obtain ⟨hb, _⟩ := h.look hl
          obtain ⟨ob', rs, s, us, G', q1, q2, q3, q4, q5, q6, q7, q8, _⟩ := h.mv hs hL hu (fun e => hne (.inl e)) hc
          rw [hob] at q1
          cases q1
          obtain ⟨s', vs', p1, p2, p3, p4⟩ := hb ob hob rs q2 q3
          cases p1.uniq q4
          have hus : vs' = us := by
            apply List.ext_getElem?
            intro i
            by_cases hi : i < n
            · rw [← p3 i hi, q6 i hi]
            · rw [List.getElem?_eq_none (by omega), List.getElem?_eq_none (by omega)]
          subst hus
          have hcells := mkv_cells p4 q7
          have hcv := (hb ob hob rs q2 q3)
          obtain ⟨L', G'', cs', k1, k2, k3, k4, k5, k6, k7⟩ := Sim.gath r _ X' _ _ (cs0 ++ ds) (vs0 ++ vs') q8 (by rw [lk_ins, if_pos rfl]) (upd_self _ _ _) hu hg
          refine ⟨L', G'', ds ++ cs', k1, by rw [k2, List.append_assoc], ?_, k4, k5, fun i => (k6 i).trans ?_, ?_⟩
          · rw [k3, List.map_cons, List.flatten_cons, hcells, List.append_assoc]
          · rw [lk_ins, lk_ins]
            by_cases e : slot = i
            · subst e; simp [hs]
            · rw [if_neg e]
              by_cases e2 : id = i
              · subst e2; simp [hob]
              · rw [if_neg e2]
          · intro y hy m hn
            rcases List.mem_cons.1 hy with rfl | hy
            · simp only at hn
              subst hn
              have hcases : (some m : Option Nat) = none ∨ (some m : Option Nat) = some n := Classical.byContradiction fun hx => hne (.inr hx)
              rcases hcases with he | he
              · cases he
              · cases he
                rw [← Array.length_toList, hcells, q5]
            · exact k7 y hy m hn
        · cases hg
    · cases hg

theorem Sim.noA (h : Sim C X a w L G) {i : Nat} (hi : lk X.sg i = none) : upd G i [] = G := by
  funext j
  by_cases e : j = i
  · subst e; rw [upd_self, h.no j hi]
  · rw [upd_ne _ _ e]

/-- An empty object to gather in. -/
theorem Sim.start (h : Sim C X a w L G) {slot : Nat} (hn : lk X.sg slot = none) : Sim C { X with sg := ins X.sg slot (.vir []) } a w (upd L slot (.vals [])) (upd G slot []) ∧ Unref X slot :=
  ⟨h.new slot hn (.vir []) (.vals []) [] (.refl _ _) List.nodup_nil (fun b hb => nomatch hb) ⟨rfl, rfl⟩, fun t x hx hr => h.rf t x hx slot hr hn⟩

theorem Sim.gath0 (h : Sim C X a w L G) {slot : Nat} (hn : lk X.sg slot = none) {xs : List (Operand × Option Nat)} {X' : St} (hg : Abs.gath { X with sg := ins X.sg slot (.vir []) } slot xs = some X') :
    ∃ L' G' cs', Sim C X' a w L' G' ∧ lk X'.sg slot = some (.vir cs') ∧ L' slot = .vals (xs.map fun x => (a.eval x.1).cells.toList).flatten ∧ Unref X' slot ∧ X'.env = X.env ∧ (∀ x ∈ xs, ∀ n, x.2 = some n → (a.eval x.1).cells.size = n) := by
  obtain ⟨h1, h2⟩ := h.start hn
  obtain ⟨L', G', cs', k1, k2, k3, k4, k5, k6, k7⟩ := Sim.gath xs _ X' _ _ [] [] h1 (by rw [lk_ins, if_pos rfl]) (upd_self _ _ _) h2 hg
  exact ⟨L', G', cs', k1, by simpa using k2, by simpa using k3, k4, k5, k7⟩

/-- An object that nobody speaks of becomes another, in new memory. -/
theorem Sim.fin (h : Sim C X a w L G) {slot : Nat} (hu : Unref X slot) {w' : World} (hx : Ext No w w') (o' : Ob) (l' : Loc) (F' : List Nat) (hF : F'.Nodup) (hFs : ∀ b ∈ F', b ∈ G slot ∨ w.heap.size ≤ b) (ho : ObRep w' (C.A (upd G slot F')) C.hv l' o' F') :
    Sim C { X with sg := ins X.sg slot o' } a w' (upd L slot l') (upd G slot F') :=
  h.chg slot o' l' F' ⟨hx.os, hx.tape, hx.output, hx.size, fun b hb _ => hx.old b hb⟩ hF hFs ho (fun t y hy hr => absurd hr (hu t y hy))

theorem Sim.pl0 (h : Sim C X a w L G) {slot b : Nat} {cs : List Cell} (hs : lk X.sg slot = some (.mem cs)) (hL : L slot = .blk b) : RepT w (C.A G) C.hv L X.sg (.pl slot none 0) (.pointer (some ⟨b, 0, none⟩)) := by
  intro ob ho rs hr
  exact ⟨b, 0, by rw [hL]; rfl, rfl⟩
theorem Sim.bor0 (h : Sim C X a w L G) {slot : Nat} {cs : List Cell} {vs : List Value} {g : Bool} {v : Value} (hs : lk X.sg slot = some (.vir cs)) (hL : L slot = .vals vs) (hv : mkv g vs v) : RepT w (C.A G) C.hv L X.sg (.bor slot none 0 cs.length g) v := by
  intro ob ho rs hr hle
  rw [hs] at ho
  cases ho
  cases hr
  have h0 := h.ob slot _ hs
  rw [hL] at h0
  refine ⟨.vals vs, vs, by rw [hL]; rfl, RepL.length h0, fun i hi => by rw [Nat.zero_add]; rfl, hv⟩

theorem alloc_ext (w : World) (o : Obj) : Ext No w (w.alloc o) := ⟨rfl, rfl, rfl, by simp, fun b hb _ => heap_alloc_old w o b hb⟩

/-- The values of an object that nobody speaks of become a variable. -/
theorem Sim.toMem (h : Sim C X a w L G) {slot : Nat} (hu : Unref X slot) {cs : List Cell} {vs : List Value} (hs : lk X.sg slot = some (.vir cs)) (hL : L slot = .vals vs) (e : TypeId) :
    Sim C { X with sg := ins X.sg slot (.mem cs) } a (w.alloc (.cells vs.toArray e)) (upd L slot (.blk w.heap.size)) (upd G slot (w.heap.size :: G slot)) := by
  have h0 := h.ob slot _ hs
  rw [hL] at h0
  have hlt := RepL.lt _ _ _ h0
  refine h.fin hu (alloc_ext w _) _ _ _ (List.nodup_cons.2 ⟨fun hb => Nat.lt_irrefl _ (hlt _ hb), h.nd slot⟩) (fun b hb => ?_) ⟨_, e, G slot, heap_alloc_new w _, ?_, rfl⟩
  · rcases List.mem_cons.1 hb with rfl | hb
    · exact .inr (Nat.le_refl _)
    · exact .inl hb
  · refine RepL.frame _ _ _ h0 (fun b hb _ => heap_alloc_old w _ b hb) (fun b hb hA => ⟨hA.1, fun i hi => ?_⟩)
    by_cases e : i = slot
    · subst e
      rw [upd_self] at hi
      rcases List.mem_cons.1 hi with rfl | hi
      · omega
      · exact hA.2 _ hi
    · rw [upd_ne _ _ e] at hi
      exact hA.2 i hi

/-- The values of an object that nobody speaks of become a slice's elements. -/
theorem Sim.toSl (h : Sim C X a w L G) {slot : Nat} (hu : Unref X slot) {cs : List Cell} {vs : List Value} (hs : lk X.sg slot = some (.vir cs)) (hL : L slot = .vals vs) (e : TypeId) {s n : Nat} (hpos : 0 < s) (hn : n * s = cs.length) :
    Sim C { X with sg := ins X.sg slot (.vir [.sl (some 0) s cs]) } a (w.alloc (.cells vs.toArray e)) (upd L slot (.vals [.slice (some ⟨w.heap.size, 0, none⟩) n n])) (upd G slot (w.heap.size :: G slot)) := by
  have h0 := h.ob slot _ hs
  rw [hL] at h0
  have hlt := RepL.lt _ _ _ h0
  have hlen := RepL.length h0
  refine h.fin hu (alloc_ext w _) _ _ _ (List.nodup_cons.2 ⟨fun hb => Nat.lt_irrefl _ (hlt _ hb), h.nd slot⟩) (fun b hb => ?_) (Rep.one ⟨some ⟨w.heap.size, 0, none⟩, n, n, rfl, hpos, hn, Nat.le_refl _, (fun _ hx => nomatch hx), (fun _ => rfl), vs, G slot, ?_, fun i u hi => ?_, rfl, rfl, vs.toArray, e, heap_alloc_new w _, by rw [hn, ← hlen]; simp⟩)
  · rcases List.mem_cons.1 hb with rfl | hb
    · exact .inr (Nat.le_refl _)
    · exact .inl hb
  · refine RepL.frame _ _ _ h0 (fun b hb _ => heap_alloc_old w _ b hb) (fun b hb hA => ⟨hA.1, fun i hi => ?_⟩)
    by_cases e : i = slot
    · subst e
      rw [upd_self] at hi
      rcases List.mem_cons.1 hi with rfl | hi
      · omega
      · exact hA.2 _ hi
    · rw [upd_ne _ _ e] at hi
      exact hA.2 i hi
  · simp only [World.cell?, heap_alloc_new, Nat.zero_add]
    simpa using hi

end
end Go.Proofs.Ytppfilhlblnmcaa.Abs
/- An abstract machine for the walks, part 11: zero values; append. No condition. -/
set_option linter.unusedVariables false
namespace Go.Proofs.Ytppfilhlblnmcaa.Abs
open Go

/-- The cells of a type's zero value. -/
def zc (P : Program) : Nat → TypeId → Option (List Cell)
  | 0, _ => none
  | n + 1, t => match P.underlying t with
    | some .bool => some [.sc (.bool false)]
    | some (.int k) => some [.sc (.int k 0)]
    | some .string => some [.sc (.string .empty)]
    | some (.slice e) => match P.info? e with
      | some i => if 0 < i.size then some [.sl (some 0) i.size []] else none
      | none => none
    | some (.func _ _ _) => some [.hole]
    | some (.pointer _) => some [.hole]
    | some (.struct fs) => (fs.toList.mapM fun f => zc P n f.type).map List.flatten
    | _ => none
def matchZ : List Cell → List Value → Bool
  | [], [] => true
  | .sc (.bool x) :: cs, .bool y :: vs => x == y && matchZ cs vs
  | .sc (.int k x) :: cs, .int k' y :: vs => decide (k = k') && x == y && matchZ cs vs
  | .sc (.string x) :: cs, .string y :: vs => decide (x = y) && matchZ cs vs
  | .sl (some 0) s [] :: cs, .slice none 0 0 :: vs => decide (0 < s) && matchZ cs vs
  | .hole :: cs, .nilFunc :: vs => matchZ cs vs
  | .hole :: cs, .pointer none :: vs => matchZ cs vs
  | _, _ => false
theorem matchZ_rep {w : World} {A : Nat → Prop} {hv : Nat → Value} : ∀ (cs : List Cell) (vs : List Value), matchZ cs vs = true → RepL w A hv cs vs [] := by
  intro cs vs h
  fun_induction matchZ cs vs with
  | case1 => exact ⟨rfl, rfl⟩
  | case2 x cs y vs ih =>
    simp only [Bool.and_eq_true, beq_iff_eq] at h
    obtain ⟨rfl, h⟩ := h
    exact ⟨_, _, [], [], rfl, rfl, ⟨rfl, rfl, rfl⟩, ih h⟩
  | case3 k x cs k' y vs ih =>
    simp only [Bool.and_eq_true, beq_iff_eq, decide_eq_true_eq] at h
    obtain ⟨⟨rfl, rfl⟩, h⟩ := h
    exact ⟨_, _, [], [], rfl, rfl, ⟨rfl, rfl, rfl⟩, ih h⟩
  | case4 x cs y vs ih =>
    simp only [Bool.and_eq_true, decide_eq_true_eq] at h
    obtain ⟨rfl, h⟩ := h
    exact ⟨_, _, [], [], rfl, rfl, ⟨rfl, rfl, rfl⟩, ih h⟩
  | case5 s cs vs ih =>
    simp only [Bool.and_eq_true, decide_eq_true_eq] at h
    obtain ⟨hs, h⟩ := h
    exact ⟨_, _, [], [], rfl, rfl, ⟨none, 0, 0, rfl, hs, by simp, Nat.le_refl _, (fun _ hn => nomatch hn), rfl, rfl⟩, ih h⟩
  | case6 cs vs ih => exact ⟨_, _, [], [], rfl, rfl, ⟨rfl, rfl⟩, ih h⟩
  | case7 cs vs ih => exact ⟨_, _, [], [], rfl, rfl, ⟨rfl, rfl⟩, ih h⟩
  | case8 => cases h

def zcell (P : Program) (t : TypeId) : Option (List Cell) :=
  match P.info? t with
  | some i => match i.zero, zc P 8 t with
    | some z, some cs => if matchZ cs z.cells.toList = true ∧ cs.length = i.size then some cs else none
    | _, _ => none
  | none => none
theorem zcell_some {P : Program} {t : TypeId} {cs : List Cell} (h : zcell P t = some cs) : ∃ i z, P.info? t = some i ∧ i.zero = some z ∧ cs.length = i.size ∧ z.cells.size = i.size ∧ ∀ w A hv, RepL w A hv cs z.cells.toList [] := by
  unfold zcell at h
  split at h
  · rename_i i hi
    split at h
    · rename_i z cs' hz hc
      split at h
      · rename_i hm
        cases h
        have hR : ∀ w A hv, RepL w A hv cs z.cells.toList [] := fun w A hv => matchZ_rep _ _ hm.1
        refine ⟨i, z, hi, hz, hm.2, ?_, hR⟩
        have := RepL.length (hR default (fun _ => True) (fun _ => default))
        rw [Array.length_toList] at this
        omega
      · cases h
    · cases h
  · cases h

/-- Zeros, n times. -/
theorem madeCells_rep {w : World} {A : Nat → Prop} {hv : Nat → Value} {cs : List Cell} {z : Array Value} (h : RepL w A hv cs z.toList []) (hs : 0 < z.size) (n : Nat) : RepL w A hv (List.replicate n cs).flatten (madeCells z (n * z.size)).toList [] := by
  have e : ∀ n, (madeCells z (n * z.size)).toList = (List.replicate n z.toList).flatten := by
    intro n
    apply List.ext_getElem?
    intro j
    have h1 : ∀ (n j : Nat), (List.replicate n z.toList).flatten[j]? = if j < n * z.size then z.toList[j % z.size]? else none := by
      intro n
      induction n with
      | zero => intro j; simp
      | succ n ih =>
        intro j
        rw [List.replicate_succ, List.flatten_cons]
        by_cases hj : j < z.size
        · rw [List.getElem?_append_left (by simpa using hj), if_pos (by rw [Nat.succ_mul]; omega), Nat.mod_eq_of_lt hj]
        · rw [List.getElem?_append_right (by simpa using hj), ih, Array.length_toList]
          rw [Nat.succ_mul]
          by_cases hk : j < n * z.size + z.size
          · rw [if_pos (by omega), if_pos hk, Nat.mod_eq_sub_mod (a := j) (by omega)]
          · rw [if_neg (by omega), if_neg hk]
    rw [h1]
    by_cases hj : j < n * z.size
    · have hm := Nat.mod_lt j hs
      rw [if_pos hj]
      simp [madeCells, hj, hm]
    · rw [if_neg hj]
      simp [madeCells, hj]
  rw [e]
  induction n with
  | zero => exact ⟨rfl, rfl⟩
  | succ n ih =>
    rw [List.replicate_succ, List.replicate_succ, List.flatten_cons, List.flatten_cons]
    exact RepL.append h ih

/-- Where the elements that are appended lie. -/
def SrcAt (w : World) (news : List Value) (m c : Nat) : Option Addr → Prop
  | none => m = 0 ∧ c = 0
  | some a => (news ≠ [] → a.spot = none) ∧ ∀ (j : Nat) u, news[j]? = some u → w.cell? ⟨a.block, a.off + j, none⟩ = some u
/-- Where the elements that are appended to lie. -/
def BaseAt (w : World) (xs : List Value) (cap size : Nat) : Option Addr → Prop
  | none => cap = 0
  | some a => a.spot = none ∧ a.off = 0 ∧ (∃ cur e0, w.heap[a.block]? = some (.cells cur e0 (0, 0)) ∧ cur.size = cap * size) ∧ ∀ (j : Nat) u, xs[j]? = some u → w.cell? ⟨a.block, j, none⟩ = some u
/-- What append leaves. -/
theorem run_append_rep {P : Program} (w : World) (t ty e : TypeId) (i : TypeInfo) (z : Value) (ht : P.underlying t = some (.slice e)) (hi : P.info? e = some i) (hz : i.zero = some z) (hzs : z.cells.size = i.size) (hsz : 0 < i.size)
    (base : Option Addr) (n cap : Nat) (xs : List Value) (hx : xs.length = n * i.size) (hnc : n ≤ cap)
    (hbase : BaseAt w xs cap i.size base)
    (sb : Option Addr) (m c : Nat) (news : List Value) (hl : news.length = m * i.size) (hsrc : SrcAt w news m c sb) (h1 : ∀ u ∈ news, u.oneCell' = true)
    (h63 : n + m ≤ 9223372036854775807) (hbytes : (n + m) * i.bytes ≤ 140737488355328) :
    ∃ b' cap' w', (Builtin.append_ #[t, t] ty #[.slice base n cap, .slice sb m c]).run P w = .ok (.slice b' (n + m) cap') w' ∧ n + m ≤ cap' ∧
      Ext (fun b => ∃ a, base = some a ∧ b = a.block) w w' ∧
      ((b' = none ∧ base = none ∧ cap' = 0 ∧ m = 0 ∧ w' = w) ∨
       ∃ g cur e0, b' = some ⟨g, 0, none⟩ ∧ w'.heap[g]? = some (.cells cur e0 (0, 0)) ∧ cur.size = cap' * i.size ∧ (∀ (j : Nat) u, (xs ++ news)[j]? = some u → w'.cell? ⟨g, j, none⟩ = some u) ∧
         (g = w.heap.size ∧ (∀ b, b < w.heap.size → w'.heap[b]? = w.heap[b]?) ∨ ∃ a, base = some a ∧ g = a.block)) := by
  have hmz : ∀ (cur : Array Value) (g : Nat) (e0 : TypeId) (w' : World), w'.heap[g]? = some (.cells cur e0 (0, 0)) → (∃ tl, cur.toList = xs ++ news ++ tl) → ∀ (j : Nat) u, (xs ++ news)[j]? = some u → w'.cell? ⟨g, j, none⟩ = some u := by
    intro cur g e0 w' hg ⟨tl, ht⟩ j u hj
    simp only [World.cell?, hg]
    have : cur.toList[j]? = some u := by rw [ht, List.getElem?_append_left (List.getElem?_eq_some_iff.1 hj).1]; exact hj
    simpa using this
  have grown : ∀ (old : Nat), old < n + m →
      ∃ cur, (xs.toArray ++ news.toArray ++ Builtin.zeroCells z.cells (grownCap w (n + m) old e - (n + m))) = cur ∧ cur.size = grownCap w (n + m) old e * i.size ∧ ∃ tl, cur.toList = xs ++ news ++ tl := by
    intro old ho
    have hge := grownCap_ge w (n + m) old e
    refine ⟨_, rfl, ?_, (Builtin.zeroCells z.cells (grownCap w (n + m) old e - (n + m))).toList, by simp⟩
    simp only [Array.size_append, List.size_toArray, size_zeroCells, hzs, hx, hl, ← Nat.add_mul]
    congr 1
    omega
  cases sb with
  | none =>
    obtain ⟨rfl, rfl⟩ := hsrc
    have hn : news = [] := List.eq_nil_of_length_eq_zero (by simpa using hl)
    subst hn
    have hrun : (Builtin.append_ #[t, t] ty #[.slice base n cap, .slice none 0 0]).run P w = .ok (.slice base n cap) w := by
      cases base <;> simp [Builtin.append_, run_underlying ht, sizeOf, typeInfo, hi, Builtin.lenOf, Builtin.firstCells, hnc, storeCells]
    refine ⟨base, cap, w, hrun, hnc, .refl _ _, ?_⟩
    cases base with
    | none => exact .inl ⟨rfl, rfl, hbase, rfl, rfl⟩
    | some a =>
      obtain ⟨hsp, ho, ⟨cur, e0, hg, hs⟩, hc⟩ := hbase
      refine .inr ⟨a.block, cur, e0, ?_, hg, hs, by simpa using hc, .inr ⟨a, rfl, rfl⟩⟩
      cases a
      cases hsp
      cases ho
      rfl
  | some a =>
    obtain ⟨hasp, hnews⟩ := hsrc
    obtain ⟨ab, ao, asp⟩ := a
    have hnews' : ∀ j v, news[j]? = some v → w.cell? ((⟨ab, ao, asp⟩ : Addr).add j) = some v := fun j v hj => by
      have hne : news ≠ [] := by intro h; rw [h] at hj; simp at hj
      cases hasp hne
      rw [Addr.add_none]; exact hnews j v hj
    cases base with
    | none =>
      have hb0 : cap = 0 := hbase
      have hn0 : n = 0 := by omega
      subst hn0
      subst hb0
      have hxs : xs = [] := List.eq_nil_of_length_eq_zero (by simpa using hx)
      subst hxs
      by_cases hm : m = 0
      · subst hm
        have hn : news = [] := List.eq_nil_of_length_eq_zero (by simpa using hl)
        subst hn
        refine ⟨none, 0, w, ?_, Nat.le_refl _, .refl _ _, .inl ⟨rfl, rfl, rfl, rfl, rfl⟩⟩
        simp [Builtin.append_, run_underlying ht, sizeOf, typeInfo, hi, Builtin.lenOf, Builtin.firstCells, loadCells, loadCellsFrom]
      · have hr := run_append_nil (P := P) w t ty e i z ht hi hz ⟨ab, ao, asp⟩ m c news hl hnews' (by omega) (by omega) (by simp only [Nat.zero_add] at hbytes; omega)
        obtain ⟨cur, k1, k2, k3⟩ := grown 0 (by omega)
        simp only [Nat.zero_add, Array.empty_append, List.nil_append] at k1 k2 k3 ⊢
        rw [k1] at hr
        refine ⟨_, _, _, hr, grownCap_ge w m 0 e, ⟨rfl, rfl, rfl, by simp, fun b hb _ => heap_alloc_old w.drew _ b hb⟩, .inr ⟨w.heap.size, cur, e, rfl, heap_alloc_new w.drew _, k2, ?_, .inl ⟨rfl, fun b hb => heap_alloc_old w.drew _ b hb⟩⟩⟩
        intro j u hj
        exact hmz cur _ e _ (heap_alloc_new w.drew _) (by simpa using k3) j u (by simpa using hj)
    | some bs =>
      obtain ⟨hsp, ho, ⟨cur, e0, hg, hs⟩, hc⟩ := hbase
      obtain ⟨g, goff, gsp⟩ := bs
      cases hsp
      cases ho
      simp only at hg hc
      by_cases hroom : n + m ≤ cap
      · have hfit : n * i.size + news.length ≤ cur.size := by rw [hl, hs, ← Nat.add_mul]; exact Nat.mul_le_mul_right _ hroom
        have hf := run_firstCells_some (P := P) w i.size m ⟨ab, ao, asp⟩ m c news hl hnews'
        have hst := run_storeCells_at P g (n * i.size) e0 news 0 cur w hg (by simpa using hfit) h1
        simp only [Nat.add_zero] at hst
        have hr : (Builtin.append_ #[t, t] ty #[.slice (some ⟨g, 0, none⟩) n cap, .slice (some ⟨ab, ao, asp⟩) m c]).run P w = .ok (.slice (some ⟨g, 0, none⟩) (n + m) cap) (w.setRow g (cur.toList.take (n * i.size) ++ news ++ cur.toList.drop (n * i.size + news.length)).toArray) := by
          simp [Builtin.append_, run_underlying ht, sizeOf, typeInfo, hi, Builtin.lenOf, hroom, hf, Addr.add_lit, hst]
        have htake : cur.toList.take (n * i.size) = xs := by
          apply List.ext_getElem?
          intro j
          rw [List.getElem?_take]
          by_cases hj : j < n * i.size
          · rw [if_pos hj]
            have hj2 : j < xs.length := by omega
            have := hc j _ (List.getElem?_eq_getElem hj2)
            simp only [World.cell?, hg] at this
            rw [List.getElem?_eq_getElem hj2]
            simpa using this
          · rw [if_neg hj, List.getElem?_eq_none (by omega)]
        refine ⟨_, _, _, hr, hroom, ⟨rfl, rfl, rfl, by simp, fun b _ hb => setRow_other w g b _ (fun e => hb ⟨_, rfl, e⟩)⟩, .inr ⟨g, _, e0, rfl, setRow_heap w g cur _ e0 _ hg, ?_, ?_, .inr ⟨_, rfl, rfl⟩⟩⟩
        · rw [← hs]
          simp only [List.size_toArray, List.length_append, List.length_take, List.length_drop, Array.length_toList]
          omega
        · exact hmz _ g e0 _ (setRow_heap w g cur _ e0 _ hg) ⟨_, by rw [htake]⟩
      · have holds : ∀ j u, xs[j]? = some u → w.cell? ((⟨g, 0, none⟩ : Addr).add j) = some u := fun j u hj => by rw [Addr.add_none, Nat.zero_add]; exact hc j u hj
        have hr := run_append_grow (P := P) w t ty e i z ht hi hz ⟨g, 0, none⟩ n cap xs hx holds ⟨ab, ao, asp⟩ m c news hl hnews' (by omega) (by omega) (growslice_fits (by omega) hbytes)
        obtain ⟨cur', k1, k2, k3⟩ := grown cap (by omega)
        rw [k1] at hr
        refine ⟨_, _, _, hr, grownCap_ge w (n + m) cap e, ⟨rfl, rfl, rfl, by simp, fun b hb _ => heap_alloc_old w.drew _ b hb⟩, .inr ⟨w.heap.size, cur', e, rfl, heap_alloc_new w.drew _, k2, ?_, .inl ⟨rfl, fun b hb => heap_alloc_old w.drew _ b hb⟩⟩⟩
        exact hmz cur' _ e _ (heap_alloc_new w.drew _) k3

end Go.Proofs.Ytppfilhlblnmcaa.Abs
/- An abstract machine for the walks, part 12: the operations that make objects. No condition. -/
set_option linter.unusedVariables false
namespace Go.Proofs.Ytppfilhlblnmcaa.Abs
open Go

def St.set (X : St) (i : Nat) (o : Ob) : St := { X with sg := ins X.sg i o }
def bplaces (P : Program) (t : TypeId) : Option (List (Nat × Nat)) :=
  match P.underlying t with
  | some (.struct fs) => fs.toList.mapM fun f => (P.info? f.type).map fun i => (f.offset, i.size)
  | _ => none
/-- Places side by side from n on; where they end. -/
def contig : Nat → List (Nat × Nat) → Option Nat
  | n, [] => some n
  | n, (o, s) :: r => if o = n then contig (n + s) r else none
/-- The operations' parts in line: number k, k + 1, .. -/
def inLine : Nat → List (Nat × Operand) → Option (List Operand)
  | _, [] => some []
  | k, (i, x) :: r => if i = k then (inLine (k + 1) r).map (x :: ·) else none

def evAppend (P : Program) (X : St) (slot : Nat) (t e : TypeId) (b x : Operand) : Option St :=
  match elemSz P t with
  | none => none
  | some s => match (if isNil b then some (X.set slot (.vir [.sl (some 0) s []])) else if (slc X b).isSome then gath (X.set slot (.vir [])) slot [(b, some 1)] else none) with
    | none => none
    | some X' => match lk X'.sg slot, slc X' x with
      | some (.vir [.sl (some 0) s1 cs]), some (_, s2, ds) =>
        if s1 = s ∧ (s2 = s ∨ ds = []) ∧ cpyL ds = true ∧ (cs.length / s + ds.length / s) * P.bytesOf e ≤ 140737488355328 ∧ cs.length / s + ds.length / s ≤ 9223372036854775807 then
          some (X'.set slot (.vir [.sl (some 0) s (cs ++ ds)]))
        else none
      | _, _ => none

/-- A string's bytes, cell by cell. -/
def byteCl (s : ByteArray) : List Cell := s.data.toList.map fun b => .sc (.int .u8 (b.toNat : Int))
def evBytes (P : Program) (X : St) (s d : TypeId) (x : Operand) : Option ByteArray :=
  match P.underlying d, P.underlying s, scal X x with
  | some (.slice e), some .string, some (.string b) => match P.underlying e with
    | some (.int .u8) => some b
    | _ => none
  | _, _, _ => none

def evN (P : Program) (X : St) (o : Oper) (slot : Nat) : Option (St × T) :=
  match lk X.sg slot with
  | some _ => none
  | none => match o.op with
    | .move x | .assign x => if isNil x then (elemSz P o.type).map fun s => (X.set slot (.vir [.sl (some 0) s []]), .bor slot none 0 1 false) else none
    | .alloc t => (zcell P t).map fun zs => (X.set slot (.mem zs), .pl slot none 0)
    | .box t x => match gath (X.set slot (.vir [])) slot [(x, none)] with
      | some X' => match lk X'.sg slot with
        | some (.vir cs) => some (X'.set slot (.mem cs), .pl slot none 0)
        | _ => none
      | none => none
    | .build t parts => match bplaces P t, inLine 0 parts.toList, zcell P t with
      | some pl, some xs, some zs => if contig 0 pl = some zs.length ∧ xs.length = pl.length then
          match gath (X.set slot (.vir [])) slot (xs.zip (pl.map fun p => some p.2)) with
          | some X' => match lk X'.sg slot with
            | some (.vir cs) => some (X', .bor slot none 0 cs.length true)
            | _ => none
          | none => none
        else match contig 0 (pl.take xs.length) with
          | some n1 => if contig 0 pl = some zs.length ∧ xs.length ≤ pl.length ∧ n1 ≤ zs.length then
              match gath (X.set slot (.vir [])) slot (xs.zip ((pl.take xs.length).map fun p => some p.2)) with
              | some X' => match lk X'.sg slot with
                | some (.vir cs) => some (X'.set slot (.vir (cs ++ zs.drop n1)), .bor slot none 0 (cs ++ zs.drop n1).length true)
                | _ => none
              | none => none
            else none
          | none => none
      | some pl, none, some zs => match parts.toList with
        | [(i, x)] => match pl[i]?, scal X x with
          | some (o, 1), some v => if o < zs.length then some (X.set slot (.vir (zs.set o (.sc v))), .bor slot none 0 zs.length true) else none
          | _, _ => none
        | _ => none
      | _, _, _ => none
    | .buildSlice t len parts => match elemSz P t, inLine 0 parts.toList, (match P.underlying t with | some (.slice e) => zcell P e | _ => none) with
      | some s, some xs, some _ => if xs.length = len ∧ len * s ≤ 16777216 then
          match gath (X.set slot (.vir [])) slot (xs.map fun x => (x, some s)) with
          | some X' => match lk X'.sg slot with
            | some (.vir cs) => some (X'.set slot (.vir [.sl (some 0) s cs]), .bor slot none 0 1 false)
            | _ => none
          | none => none
        else none
      | _, _, _ => none
    | .makeSlice t l c => match elemSz P t, scal X l, scal X c, (match P.underlying t with | some (.slice e) => (zcell P e).map fun z => (e, z) | _ => none) with
      | some s, some (.int _ n), some (.int _ m), some (e, zs) => if n = m ∧ 0 ≤ n ∧ (P.bytesOf e : Int) * n ≤ 281474976710656 ∧ n ≤ 9223372036854775807 then
          some (X.set slot (.vir [.sl (some 0) s (List.replicate n.toNat zs).flatten]), .bor slot none 0 1 false)
        else none
      | _, _, _, _ => none
    | .call { callee := .builtin .append, args := ⟨[b, x]⟩, argTypes := ⟨[t, t']⟩ } => if t = t' then match P.underlying t with
        | some (.slice e) => match zcell P e with
          | some _ => (evAppend P X slot t e b x).map fun X' => (X', .bor slot none 0 1 false)
          | none => none
        | _ => none
      else none
    | .slice t x none (some hi) none => match elemSz P t, (if (slc X x).isSome then gath (X.set slot (.vir [])) slot [(x, some 1)] else none) with
      | some s, some X' => match lk X'.sg slot with
        | some (.vir [.sl (some 0) s' cs]) => if s' = s then match bnd X' (some hi) (cs.length / s) 0 with
            | some h => some (X'.set slot (.vir [.sl (some 0) s (cs.take (h * s))]), .bor slot none 0 1 false)
            | none => none
          else none
        | _ => none
      | _, _ => none
    | .convert s d x => (evBytes P X s d x).map fun b => (X.set slot (.vir []), .dat false [.sl none 1 (byteCl b)])
    | _ => none

section
variable {C : Cx} {X X' : St} {a : Act} {w : World} {L : Nat → Loc} {G : Nat → List Nat} {o : Oper} {t : T}

/-- It yields a value of that make, and the state is X'. -/
def Mk (C : Cx) (X' : St) (a : Act) (w : World) (o : Oper) (t : T) : Prop :=
  ∃ v w' L' G', (execOp a.eval o).run C.P w = .ok (.value v) w' ∧ Sim C X' a w' L' G' ∧ RepT w' (C.A G') C.hv L' X'.sg t v ∧ ∀ i ∈ refs t, lk X'.sg i ≠ none

theorem set_some (X : St) (i : Nat) (o : Ob) : lk (X.set i o).sg i = some o := by
  show lk (ins X.sg i o) i = _
  rw [lk_ins, if_pos rfl]

theorem Sim.mkMem {slot : Nat} {cs : List Cell} {b : Nat} {w' : World} {L' : Nat → Loc} {G' : Nat → List Nat} (h : Sim C X' a w' L' G') (hs : lk X'.sg slot = some (.mem cs)) (hL : L' slot = .blk b) (hr : (execOp a.eval o).run C.P w = .ok (.value (.pointer (some ⟨b, 0, none⟩))) w') : Mk C X' a w o (.pl slot none 0) :=
  ⟨_, w', L', G', hr, h, h.pl0 hs hL, fun i hi => by simp only [refs, refU, List.mem_singleton] at hi; subst hi; rw [hs]; simp⟩
theorem Sim.mkVir {slot : Nat} {cs : List Cell} {vs : List Value} {g : Bool} {v : Value} {w' : World} {L' : Nat → Loc} {G' : Nat → List Nat} (h : Sim C X' a w' L' G') (hs : lk X'.sg slot = some (.vir cs)) (hL : L' slot = .vals vs) (hv : mkv g vs v) (hr : (execOp a.eval o).run C.P w = .ok (.value v) w') {n : Nat} (hn : n = cs.length) : Mk C X' a w o (.bor slot none 0 n g) := by
  subst hn
  exact ⟨v, w', L', G', hr, h, h.bor0 hs hL hv, fun i hi => by simp only [refs, refU, List.mem_singleton] at hi; subst hi; rw [hs]; simp⟩

/-- A new slice without elements. -/
theorem Sim.nil (h : Sim C X a w L G) {slot s : Nat} (hn : lk X.sg slot = none) (hs : 0 < s) :
    Sim C (X.set slot (.vir [.sl (some 0) s []])) a w (upd L slot (.vals [.slice none 0 0])) (upd G slot []) ∧ Unref (X.set slot (.vir [.sl (some 0) s []])) slot :=
  ⟨h.new slot hn _ _ [] (.refl _ _) List.nodup_nil (fun b hb => nomatch hb) (Rep.one ⟨none, 0, 0, rfl, hs, by simp, Nat.le_refl _, (fun _ hx => nomatch hx), rfl, rfl⟩), fun t x hx hr => h.rf t x hx slot hr hn⟩

theorem Sim.kNil (h : Sim C X a w L G) {slot s : Nat} {x : Operand} (hn : lk X.sg slot = none) (hx : isNil x = true) (he : elemSz C.P o.type = some s) (ho : o.op = .move x ∨ o.op = .assign x) : Mk C (X.set slot (.vir [.sl (some 0) s []])) a w o (.bor slot none 0 1 false) := by
  obtain ⟨e, i, _, _, _, hs⟩ := elemSz_some he
  obtain ⟨h1, h2⟩ := h.nil hn hs
  refine h1.mkVir (g := false) (set_some _ _ _) (upd_self _ _ _) rfl ?_ rfl
  unfold isNil at hx
  split at hx
  · unfold execOp
    rcases ho with ho | ho <;> rw [ho] <;> rfl
  · cases hx

theorem Sim.kAlloc (h : Sim C X a w L G) {slot : Nat} {ty : TypeId} {zs : List Cell} (hn : lk X.sg slot = none) (hz : zcell C.P ty = some zs) (ho : o.op = .alloc ty) : Mk C (X.set slot (.mem zs)) a w o (.pl slot none 0) := by
  obtain ⟨i, z, h1, h2, h3, h4, h5⟩ := zcell_some hz
  have hs := h.new (w' := w.alloc (.cells z.cells ty)) slot hn (.mem zs) (.blk w.heap.size) [w.heap.size] (alloc_ext w _) (by simp) (fun b hb => by simp at hb; omega)
    ⟨z.cells, ty, [], heap_alloc_new w _, h5 _ _ _, rfl⟩
  refine hs.mkMem (set_some _ _ _) (upd_self _ _ _) ?_
  unfold execOp
  rw [ho]
  refine wrapVal ?_
  simp only [Instr.alloc, Sem.run_bind, zeroValue, typeInfo, run_program, Result.andThen_ok, h1, h2, Sem.run_pure, newVar, newRow, run_newObj]
  rfl

theorem Sim.kBox (h : Sim C X a w L G) {slot : Nat} {ty : TypeId} {x : Operand} {X1 : St} {cs : List Cell} (hn : lk X.sg slot = none) (hg : Abs.gath (X.set slot (.vir [])) slot [(x, none)] = some X1) (hs : lk X1.sg slot = some (.vir cs)) (ho : o.op = .box ty x) : Mk C (X1.set slot (.mem cs)) a w o (.pl slot none 0) := by
  obtain ⟨L', G', cs', k1, k2, k3, k4, k5, k6⟩ := h.gath0 hn hg
  rw [hs] at k2
  cases k2
  simp only [List.map_cons, List.map_nil, List.flatten_cons, List.flatten_nil, List.append_nil] at k3
  have := k1.toMem k4 hs k3 ty
  refine this.mkMem (set_some _ _ _) (upd_self _ _ _) ?_
  unfold execOp
  rw [ho]
  refine wrapVal ?_
  simp only [Instr.box, Sem.run_bind, newVar, newRow, run_newObj, Result.andThen_ok, Sem.run_pure]
  rfl

theorem inLine_map {f : Operand → Value} : ∀ (k : Nat) (l : List (Nat × Operand)) (xs : List Operand), inLine k l = some xs → (l.map fun (i, x) => (i, f x)) = ((xs.map f).zipIdx k).map fun x => (x.2, x.1)
  | k, [], xs, h => by cases h; rfl
  | k, (i, x) :: r, xs, h => by
    unfold inLine at h
    split at h
    · rename_i hk
      subst hk
      cases hr : inLine (i + 1) r with
      | none => rw [hr] at h; cases h
      | some ys =>
        rw [hr] at h
        cases h
        simp only [List.map_cons, List.zipIdx_cons, inLine_map (i + 1) r ys hr]
    · cases h

theorem fill_contig : ∀ (pl : List (Nat × Nat)) (vs : List Value) (k n m : Nat) (place : Nat → Option (Nat × Nat)) (done rest : List Value), contig n pl = some m → done.length = n → vs.length = pl.length → (∀ (i : Nat) (p : Nat × Nat), pl[i]? = some p → place (k + i) = some p) → (∀ (i : Nat) (p : Nat × Nat) (v : Value), pl[i]? = some p → vs[i]? = some v → v.cells.size = p.2) → n + rest.length = m →
    Instr.fill place (done ++ rest).toArray ((vs.zipIdx k).map fun x => (x.2, x.1)) = some (done ++ (vs.map fun v => v.cells.toList).flatten).toArray
  | [], vs, k, n, m, place, done, rest, hc, hd, hv, hp, hs, hr => by
    have : vs = [] := List.eq_nil_of_length_eq_zero (by simpa using hv)
    subst this
    cases hc
    have : rest = [] := List.eq_nil_of_length_eq_zero (by omega)
    subst this
    rfl
  | (off, s) :: pl, vs, k, n, m, place, done, rest, hc, hd, hv, hp, hs, hr => by
    cases vs with
    | nil => simp at hv
    | cons v vs =>
      unfold contig at hc
      split at hc
      · rename_i ho
        subst ho
        have hvs : v.cells.size = s := hs 0 _ v rfl rfl
        have hvl : v.cells.toList.length = s := by rw [Array.length_toList]; exact hvs
        have hge : off + s ≤ m := by
          have : ∀ (pl : List (Nat × Nat)) (a b : Nat), contig a pl = some b → a ≤ b := by
            intro pl
            induction pl with
            | nil => intro a b h; cases h; exact Nat.le_refl _
            | cons p r ih =>
              intro a b h
              obtain ⟨o, t⟩ := p
              unfold contig at h
              split at h
              · have := ih _ _ h; omega
              · cases h
          exact this _ _ _ hc
        have hpl := hp 0 _ rfl
        simp only [Nat.add_zero] at hpl
        simp only [List.zipIdx_cons, List.map_cons]
        unfold Instr.fill
        simp only [hpl]
        rw [if_neg (by simp [hvs]; omega)]
        have hset : v.cells.zipIdx.foldl (fun cs (x : Value × Nat) => cs.setIfInBounds (off + x.2) x.1) (done ++ rest).toArray = ((done ++ v.cells.toList) ++ rest.drop s).toArray := by
          rw [← Array.foldl_toList, Array.toList_zipIdx]
          obtain ⟨g1, g2⟩ := Go.Great.foldl_set off v.cells.toList 0 (done ++ rest).toArray
          apply Array.ext'
          apply List.ext_getElem?
          intro j
          rw [Array.getElem?_toList, g2 j]
          simp only [Nat.add_zero, hvl, List.size_toArray, List.length_append, List.getElem?_toArray]
          by_cases h1 : j < off
          · rw [if_neg (by omega), List.getElem?_append_left (by omega), List.append_assoc, List.getElem?_append_left (by omega)]
          · by_cases h2 : j < off + s
            · rw [if_pos ⟨by omega, h2, by omega⟩, List.append_assoc, List.getElem?_append_right (by omega), List.getElem?_append_left (by rw [hvl]; omega), hd]
            · rw [if_neg (by omega), List.getElem?_append_right (by omega), List.getElem?_append_right (by rw [List.length_append, hvl]; omega), List.getElem?_drop, List.length_append, hvl]
              congr 1
              omega
        have ih := fill_contig pl vs (k + 1) (off + s) m place (done ++ v.cells.toList) (rest.drop s) hc (by simp [hd, hvs]) (by simpa using hv)
          (fun i p h => by have := hp (i + 1) p (by simpa using h); rwa [show k + (i + 1) = k + 1 + i by omega] at this)
          (fun i p u h h' => hs (i + 1) p u (by simpa using h) (by simpa using h')) (by simp only [List.length_drop]; omega)
        have hgoal : Instr.fill place (v.cells.zipIdx.foldl (fun cs (x : Value × Nat) => cs.setIfInBounds (off + x.2) x.1) (done ++ rest).toArray) ((vs.zipIdx (k + 1)).map fun x => (x.2, x.1)) = some (done ++ (v.cells.toList ++ (vs.map fun v => v.cells.toList).flatten)).toArray := by
          rw [hset, ih, List.append_assoc]
        exact hgoal
      · cases hc

theorem fill_prefix : ∀ (pl : List (Nat × Nat)) (vs : List Value) (k n m : Nat) (place : Nat → Option (Nat × Nat)) (done rest : List Value), contig n pl = some m → done.length = n → vs.length = pl.length → (∀ (i : Nat) (p : Nat × Nat), pl[i]? = some p → place (k + i) = some p) → (∀ (i : Nat) (p : Nat × Nat) (v : Value), pl[i]? = some p → vs[i]? = some v → v.cells.size = p.2) → m ≤ n + rest.length →
    Instr.fill place (done ++ rest).toArray ((vs.zipIdx k).map fun x => (x.2, x.1)) = some (done ++ (vs.map fun v => v.cells.toList).flatten ++ rest.drop (m - n)).toArray
  | [], vs, k, n, m, place, done, rest, hc, hd, hv, hp, hs, hr => by
    have : vs = [] := List.eq_nil_of_length_eq_zero (by simpa using hv)
    subst this
    cases hc
    simp [Instr.fill]
  | (off, s) :: pl, vs, k, n, m, place, done, rest, hc, hd, hv, hp, hs, hr => by
    cases vs with
    | nil => simp at hv
    | cons v vs =>
      unfold contig at hc
      split at hc
      · rename_i ho
        subst ho
        have hvs : v.cells.size = s := hs 0 _ v rfl rfl
        have hvl : v.cells.toList.length = s := by rw [Array.length_toList]; exact hvs
        have hge : off + s ≤ m := by
          have : ∀ (pl : List (Nat × Nat)) (a b : Nat), contig a pl = some b → a ≤ b := by
            intro pl
            induction pl with
            | nil => intro a b h; cases h; exact Nat.le_refl _
            | cons p r ih =>
              intro a b h
              obtain ⟨o, t⟩ := p
              unfold contig at h
              split at h
              · have := ih _ _ h; omega
              · cases h
          exact this _ _ _ hc
        have hpl := hp 0 _ rfl
        simp only [Nat.add_zero] at hpl
        simp only [List.zipIdx_cons, List.map_cons]
        unfold Instr.fill
        simp only [hpl]
        rw [if_neg (by simp [hvs]; omega)]
        have hset : v.cells.zipIdx.foldl (fun cs (x : Value × Nat) => cs.setIfInBounds (off + x.2) x.1) (done ++ rest).toArray = ((done ++ v.cells.toList) ++ rest.drop s).toArray := by
          rw [← Array.foldl_toList, Array.toList_zipIdx]
          obtain ⟨g1, g2⟩ := Go.Great.foldl_set off v.cells.toList 0 (done ++ rest).toArray
          apply Array.ext'
          apply List.ext_getElem?
          intro j
          rw [Array.getElem?_toList, g2 j]
          simp only [Nat.add_zero, hvl, List.size_toArray, List.length_append, List.getElem?_toArray]
          by_cases h1 : j < off
          · rw [if_neg (by omega), List.getElem?_append_left (by omega), List.append_assoc, List.getElem?_append_left (by omega)]
          · by_cases h2 : j < off + s
            · rw [if_pos ⟨by omega, h2, by omega⟩, List.append_assoc, List.getElem?_append_right (by omega), List.getElem?_append_left (by rw [hvl]; omega), hd]
            · rw [if_neg (by omega), List.getElem?_append_right (by omega), List.getElem?_append_right (by rw [List.length_append, hvl]; omega), List.getElem?_drop, List.length_append, hvl]
              congr 1
              omega
        have ih := fill_prefix pl vs (k + 1) (off + s) m place (done ++ v.cells.toList) (rest.drop s) hc (by simp [hd, hvs]) (by simpa using hv)
          (fun i p h => by have := hp (i + 1) p (by simpa using h); rwa [show k + (i + 1) = k + 1 + i by omega] at this)
          (fun i p u h h' => hs (i + 1) p u (by simpa using h) (by simpa using h')) (by simp only [List.length_drop]; omega)
        have hgoal : Instr.fill place (v.cells.zipIdx.foldl (fun cs (x : Value × Nat) => cs.setIfInBounds (off + x.2) x.1) (done ++ rest).toArray) ((vs.zipIdx (k + 1)).map fun x => (x.2, x.1)) = some (done ++ (v.cells.toList ++ (vs.map fun v => v.cells.toList).flatten) ++ rest.drop (m - off)).toArray := by
          rw [hset, ih, List.drop_drop, show s + (m - (off + s)) = m - off by omega, List.append_assoc done]
        exact hgoal
      · cases hc

theorem zip_fst {α β : Type} : ∀ (xs : List α) (ys : List β), xs.length = ys.length → (xs.zip ys).map Prod.fst = xs
  | [], _, _ => rfl
  | x :: xs, [], h => by simp at h
  | x :: xs, y :: ys, h => by simp only [List.zip_cons_cons, List.map_cons, zip_fst xs ys (by simpa using h)]

theorem Sim.kBuild (h : Sim C X a w L G) {slot : Nat} {ty : TypeId} {parts : Array (Nat × Operand)} {pl : List (Nat × Nat)} {xs : List Operand} {zs : List Cell} {X1 : St} {cs : List Cell} (hn : lk X.sg slot = none) (hpl : bplaces C.P ty = some pl) (hxs : inLine 0 parts.toList = some xs) (hz : zcell C.P ty = some zs)
    (hcon : contig 0 pl = some zs.length) (hlen : xs.length = pl.length) (hg : Abs.gath (X.set slot (.vir [])) slot (xs.zip (pl.map fun p => some p.2)) = some X1) (hs : lk X1.sg slot = some (.vir cs)) (ho : o.op = .build ty parts) : Mk C X1 a w o (.bor slot none 0 cs.length true) := by
  obtain ⟨L', G', cs', k1, k2, k3, k4, k5, k6⟩ := h.gath0 hn hg
  rw [hs] at k2
  cases k2
  obtain ⟨i, z, z1, z2, z3, z4, _⟩ := zcell_some hz
  refine k1.mkVir (g := true) hs k3 rfl ?_ rfl
  have hmap : ((xs.zip (pl.map fun p => some p.2)).map fun x => (a.eval x.1).cells.toList) = (xs.map a.eval).map fun v => v.cells.toList := by
    have := zip_fst xs (pl.map fun p => some p.2) (by simpa using hlen)
    rw [← this, List.map_map, List.map_map]
    rw [this]
    rfl
  rw [hmap]
  unfold execOp
  rw [ho]
  refine wrapVal (run_build w ty _ _ ?_)
  unfold bplaces at hpl
  split at hpl
  · rename_i fs hu
    have hfill := fill_contig pl (xs.map a.eval) 0 0 zs.length (fun i => pl.toArray[i]?) [] z.cells.toList hcon rfl (by simpa using hlen) (fun i p hp => by simpa using hp) (fun i p v hp hv => ?_) (by rw [Array.length_toList]; omega)
    · unfold Program.built
      simp only [z1, z2, hu, hpl]
      rw [Array.toList_map, inLine_map 0 parts.toList xs hxs]
      simpa using hfill
    · rw [List.getElem?_map] at hv
      cases hx : xs[i]? with
      | none => rw [hx] at hv; cases hv
      | some x =>
        rw [hx] at hv
        cases hv
        refine k6 (x, some p.2) ?_ p.2 rfl
        refine List.mem_of_getElem? (i := i) ?_
        rw [List.getElem?_zip_eq_some]
        exact ⟨hx, by rw [List.getElem?_map, hp]; rfl⟩
  · cases hpl

theorem Sim.kBuildP (h : Sim C X a w L G) {slot n1 : Nat} {ty : TypeId} {parts : Array (Nat × Operand)} {pl : List (Nat × Nat)} {xs : List Operand} {zs : List Cell} {X1 : St} {cs : List Cell} (hn : lk X.sg slot = none) (hpl : bplaces C.P ty = some pl) (hxs : inLine 0 parts.toList = some xs) (hz : zcell C.P ty = some zs)
    (hcon : contig 0 (pl.take xs.length) = some n1) (hlen : xs.length ≤ pl.length) (hn1 : n1 ≤ zs.length) (hg : Abs.gath (X.set slot (.vir [])) slot (xs.zip ((pl.take xs.length).map fun p => some p.2)) = some X1) (hs : lk X1.sg slot = some (.vir cs)) (ho : o.op = .build ty parts) : Mk C (X1.set slot (.vir (cs ++ zs.drop n1))) a w o (.bor slot none 0 (cs ++ zs.drop n1).length true) := by
  obtain ⟨L', G', cs', k1, k2, k3, k4, k5, k6⟩ := h.gath0 hn hg
  rw [hs] at k2
  cases k2
  obtain ⟨i, z, z1, z2, z3, z4, z5⟩ := zcell_some hz
  have hmap : ((xs.zip ((pl.take xs.length).map fun p => some p.2)).map fun x => (a.eval x.1).cells.toList) = (xs.map a.eval).map fun v => v.cells.toList := by
    have := zip_fst xs ((pl.take xs.length).map fun p => some p.2) (by simp; omega)
    rw [← this, List.map_map, List.map_map]
    rw [this]
    rfl
  rw [hmap] at k3
  have hR0 := k1.ob slot _ hs
  rw [k3] at hR0
  have hzR := z5 w (C.A G') C.hv
  rw [← List.take_append_drop n1 zs] at hzR
  obtain ⟨u1, u2, F1, F2, hu, hF, r1, r2⟩ := RepL.split hzR
  have hF2 : F2 = [] := by
    cases F1 <;> cases F2 <;> simp at hF ⊢
  subst hF2
  have hu1 : u1.length = n1 := by rw [RepL.length r1, List.length_take]; omega
  have hu2 : u2 = z.cells.toList.drop n1 := by rw [hu, ← hu1, List.drop_left]
  have hG : upd G' slot (G' slot) = G' := by
    funext k
    by_cases e : k = slot
    · subst e; exact upd_self _ _ _
    · exact upd_ne _ _ e
  have hfin := k1.fin k4 (Ext.refl _ _) (.vir (cs ++ zs.drop n1)) (.vals (((xs.map a.eval).map fun v => v.cells.toList).flatten ++ u2)) (G' slot) (k1.nd slot) (fun b hb => .inl hb) (by
    rw [hG]
    have := RepL.append (show RepL w (C.A G') C.hv cs _ (G' slot) from hR0) r2
    rw [List.append_nil] at this
    exact this)
  refine hfin.mkVir (g := true) (set_some X1 slot _) (upd_self _ _ _) rfl ?_ rfl
  unfold execOp
  rw [ho]
  refine wrapVal (run_build w ty _ _ ?_)
  unfold bplaces at hpl
  split at hpl
  · rename_i fs hu9
    have hfill := fill_prefix (pl.take xs.length) (xs.map a.eval) 0 0 n1 (fun i => pl.toArray[i]?) [] z.cells.toList hcon rfl (by simp; omega) (fun i p hp => by
        rw [List.getElem?_take] at hp
        split at hp
        · simpa using hp
        · cases hp) (fun i p v hp hv => ?_) (by rw [Array.length_toList]; omega)
    · unfold Program.built
      simp only [z1, z2, hu9, hpl]
      rw [Array.toList_map, inLine_map 0 parts.toList xs hxs, hu2]
      simpa using hfill
    · rw [List.getElem?_map] at hv
      cases hx : xs[i]? with
      | none => rw [hx] at hv; cases hv
      | some x =>
        rw [hx] at hv
        cases hv
        refine k6 (x, some p.2) ?_ p.2 rfl
        refine List.mem_of_getElem? (i := i) ?_
        rw [List.getElem?_zip_eq_some]
        exact ⟨hx, by rw [List.getElem?_map, hp]; rfl⟩
  · cases hpl

theorem Sim.kBuildSlice (h : Sim C X a w L G) {slot s len : Nat} {ty e : TypeId} {parts : Array (Nat × Operand)} {xs : List Operand} {zs : List Cell} {X1 : St} {cs : List Cell} (hn : lk X.sg slot = none) (he : elemSz C.P ty = some s) (hu : C.P.underlying ty = some (.slice e)) (hxs : inLine 0 parts.toList = some xs) (hz : zcell C.P e = some zs)
    (hlen : xs.length = len) (hsm : len * s ≤ 16777216) (hg : Abs.gath (X.set slot (.vir [])) slot (xs.map fun x => (x, some s)) = some X1) (hs : lk X1.sg slot = some (.vir cs)) (ho : o.op = .buildSlice ty len parts) : Mk C (X1.set slot (.vir [.sl (some 0) s cs])) a w o (.bor slot none 0 1 false) := by
  obtain ⟨L', G', cs', k1, k2, k3, k4, k5, k6⟩ := h.gath0 hn hg
  rw [hs] at k2
  cases k2
  obtain ⟨e', i, q1, q2, q3, q4⟩ := elemSz_some he
  rw [hu] at q1
  cases q1
  obtain ⟨i', z, z1, z2, z3, z4, _⟩ := zcell_some hz
  rw [q2] at z1
  cases z1
  subst q3
  rw [List.map_map] at k3
  have hmap : (xs.map ((fun x : Operand × Option Nat => (a.eval x.1).cells.toList) ∘ fun x => (x, some i.size))) = (xs.map a.eval).map fun v => v.cells.toList := by rw [List.map_map]; rfl
  rw [hmap] at k3
  have hsz : ∀ v ∈ xs.map a.eval, v.cells.size = i.size := by
    intro v hv
    obtain ⟨x, hx, rfl⟩ := List.mem_map.1 hv
    exact k6 (x, some i.size) (List.mem_map.2 ⟨x, hx, rfl⟩) _ rfl
  have hcl : ((xs.map a.eval).map fun v => v.cells.toList).flatten.length = len * i.size := by
    rw [← hlen]
    have : ∀ (vs : List Value), (∀ v ∈ vs, v.cells.size = i.size) → (vs.map fun v => v.cells.toList).flatten.length = vs.length * i.size := by
      intro vs
      induction vs with
      | nil => intro _; simp
      | cons v vs ih =>
        intro hv
        rw [List.map_cons, List.flatten_cons, List.length_append, ih (fun u hu => hv u (List.mem_cons_of_mem _ hu)), Array.length_toList, hv v List.mem_cons_self, List.length_cons, Nat.succ_mul]
        omega
    rw [this _ hsz, List.length_map]
  have h0 := k1.ob slot _ hs
  rw [k3] at h0
  have hcs : len * i.size = cs.length := by rw [← hcl]; exact RepL.length h0
  have hfin := k1.toSl k4 hs k3 e q4 hcs
  refine hfin.mkVir (g := false) (set_some _ _ _) (upd_self _ _ _) rfl ?_ rfl
  unfold execOp
  rw [ho]
  refine wrapVal ?_
  by_cases hz0 : len = 0
  · subst hz0
    have hx0 : xs = [] := List.eq_nil_of_length_eq_zero hlen
    subst hx0
    have hp0 : parts.toList = [] := by
      cases hpt : parts.toList with
      | nil => rfl
      | cons p r =>
        rw [hpt] at hxs
        obtain ⟨k, x⟩ := p
        unfold inLine at hxs
        split at hxs
        · cases hr : inLine (0 + 1) r with
          | none => rw [hr] at hxs; cases hxs
          | some ys => rw [hr] at hxs; cases hxs
        · cases hxs
    have hp1 : parts = #[] := Array.ext' (by rw [hp0])
    subst hp1
    simp [Instr.buildSlice, run_underlying hu, sizeOf, typeInfo, q2, Instr.fill, newRow, Array.range_zero']
  · have hr := run_buildSlice (P := C.P) w ty e len (parts.map fun (j, x) => (j, a.eval x)) ((xs.map a.eval).flatMap fun v => v.cells.toList).toArray i z hu q2 z2 (by omega) (by
      have := Nat.mul_pos (Nat.pos_of_ne_zero hz0) q4
      omega) (by
      rw [Array.toList_map, inLine_map 0 parts.toList xs hxs]
      exact Go.Great.fill_whole q4 _ _ hsz (by simp [hlen]))
    rw [List.flatMap_def] at hr
    exact hr

theorem Sim.kMake (h : Sim C X a w L G) {slot s : Nat} {ty e : TypeId} {l c : Operand} {k k' : IntKind} {n : Int} {zs : List Cell} (hn : lk X.sg slot = none) (he : elemSz C.P ty = some s) (hu : C.P.underlying ty = some (.slice e)) (hz : zcell C.P e = some zs) (hl : Abs.scal X l = some (.int k n)) (hc : Abs.scal X c = some (.int k' n))
    (h0 : 0 ≤ n) (hb : (C.P.bytesOf e : Int) * n ≤ 281474976710656) (h63 : n ≤ 9223372036854775807) (ho : o.op = .makeSlice ty l c) : Mk C (X.set slot (.vir [.sl (some 0) s (List.replicate n.toNat zs).flatten])) a w o (.bor slot none 0 1 false) := by
  obtain ⟨e', i, q1, q2, q3, q4⟩ := elemSz_some he
  rw [hu] at q1
  cases q1
  subst q3
  obtain ⟨i', z, z1, z2, z3, z4, z5⟩ := zcell_some hz
  rw [q2] at z1
  cases z1
  have hby : C.P.bytesOf e = i.bytes := by simp [Program.bytesOf, q2]
  rw [hby] at hb
  have hlen : (List.replicate n.toNat zs).flatten.length = n.toNat * i.size := by simp [z3]
  have hfin := h.new (w' := w.alloc (.cells (madeCells z.cells (n.toNat * i.size)) e)) slot hn (.vir [.sl (some 0) i.size (List.replicate n.toNat zs).flatten]) (.vals [.slice (some ⟨w.heap.size, 0, none⟩) n.toNat n.toNat]) [w.heap.size] (alloc_ext w _) (by simp) (fun b hb => by simp at hb; omega)
    (Rep.one ⟨some ⟨w.heap.size, 0, none⟩, n.toNat, n.toNat, rfl, q4, hlen.symm, Nat.le_refl _, (fun _ hx => nomatch hx), (fun _ => rfl), (madeCells z.cells (n.toNat * z.cells.size)).toList, [], madeCells_rep (z5 _ _ _) (by omega) _, fun j u hj => by
        simp only [World.cell?, heap_alloc_new, Nat.zero_add]
        rw [← z4]
        simpa using hj, rfl, rfl, _, e, heap_alloc_new w _, size_madeCells _ _⟩)
  refine hfin.mkVir (g := false) (set_some _ _ _) (upd_self _ _ _) rfl ?_ rfl
  unfold execOp
  rw [ho]
  refine wrapVal ?_
  rw [(h.scal hl).1, (h.scal hc).1]
  exact run_make (P := C.P) w ty e i z hu q2 z2 k k' n n h0 (Int.le_refl _) hb h63

theorem byteCl_rep {w : World} {A : Nat → Prop} {hv : Nat → Value} : ∀ l : List UInt8, RepL w A hv (l.map fun b => .sc (.int .u8 (b.toNat : Int))) (l.map fun b => Value.int .u8 (b.toNat : Int)) []
  | [] => ⟨rfl, rfl⟩
  | b :: l => ⟨_, _, [], [], rfl, rfl, ⟨rfl, rfl, rfl⟩, byteCl_rep l⟩
theorem byteCl_cpy (s : ByteArray) : cpyL [.sl none 1 (byteCl s)] = true := by
  have h : ∀ l : List UInt8, cpyL (l.map fun b => Cell.sc (.int .u8 (b.toNat : Int))) = true := by
    intro l
    induction l with
    | nil => rfl
    | cons b l ih => simp [cpyL, cpy, ih]
  simp [cpyL, cpy, byteCl, h]
theorem Sim.kBytes (h : Sim C X a w L G) {slot : Nat} {s d : TypeId} {x : Operand} {b : ByteArray} (hn : lk X.sg slot = none) (hb : evBytes C.P X s d x = some b) (ho : o.op = .convert s d x) : Mk C (X.set slot (.vir [])) a w o (.dat false [.sl none 1 (byteCl b)]) := by
  unfold evBytes at hb
  split at hb
  · rename_i e bb hd hs hx
    split at hb
    · rename_i he
      cases hb
      have hlen : (byteCl b).length = b.size := by
        simp [byteCl]
      have hfin := h.new (w' := Go.Lib.bytesWorld w e b) slot hn (.vir []) (.vals []) []
        ⟨by simp [Go.Lib.bytesWorld, World.freeze]; rfl, by simp [Go.Lib.bytesWorld, World.freeze], by simp [Go.Lib.bytesWorld, World.freeze]; rfl, by rw [Go.Lib.bytesWorld_size]; omega, fun j hj _ => Go.Lib.bytesWorld_at_old w e b j hj⟩ List.nodup_nil (fun b hb => nomatch hb) ⟨rfl, rfl⟩
      refine ⟨.slice (some ⟨w.heap.size, 0, none⟩) b.size (grownCap w b.size 0 e), _, _, _, ?_, hfin, ⟨byteCl_cpy b, _, (Rep.one ⟨some ⟨w.heap.size, 0, none⟩, b.size, grownCap w b.size 0 e, rfl, by omega, by omega, grownCap_ge w b.size 0 e, (fun _ hx => nomatch hx), (fun _ => rfl), _, [], byteCl_rep b.data.toList, fun j u hj => by
          have hj' := hj
          rw [List.getElem?_map] at hj
          cases hq : b.data.toList[j]? with
          | none => rw [hq] at hj; cases hj
          | some y =>
            rw [hq] at hj
            cases hj
            have hlt : j < b.size := by
              have := (List.getElem?_eq_some_iff.1 hq).1
              simpa using this
            show (Go.Lib.bytesWorld w e b).cell? ⟨w.heap.size, 0 + j, none⟩ = _
            rw [Nat.zero_add, Go.Lib.bytesWorld_cell w e b j hlt, List.getD_eq_getElem?_getD, hq]
            rfl, rfl, rfl, fun _ => ⟨.inr h.fr.size, fun i hi => by
          unfold upd at hi
          split at hi
          · cases hi
          · cases hq : lk X.sg i with
            | none => rw [h.no i hq] at hi; cases hi
            | some o => exact absurd (ObRep.lt (h.ob i _ hq) _ hi) (Nat.lt_irrefl _)⟩⟩), rfl⟩, fun i hi => nomatch hi⟩
      unfold execOp
      rw [ho]
      refine wrapVal ?_
      rw [(h.scal hx).1]
      exact Go.Lib.run_convert_string_bytes w s d e b hs hd he
    · cases hb
  · cases hb

theorem RepL.setSc {w : World} {A : Nat → Prop} {hv : Nat → Value} {v : Value} (hf : Abs.flat v = true) : ∀ (cs : List Cell) (vs : List Value) (o : Nat), RepL w A hv cs vs [] → RepL w A hv (cs.set o (.sc v)) (vs.set o v) []
  | [], vs, o, h => by
    obtain ⟨rfl, _⟩ := h
    exact ⟨rfl, rfl⟩
  | c :: cs, vs, o, h => by
    obtain ⟨u, us, F1, F2, rfl, hF, h1, h2⟩ := h
    have e1 : F1 = [] := by cases F1 <;> simp at hF ⊢
    have e2 : F2 = [] := by cases F2 <;> simp at hF ⊢
    subst e1
    subst e2
    cases o with
    | zero => exact ⟨v, us, [], [], rfl, rfl, ⟨rfl, hf, rfl⟩, h2⟩
    | succ o => exact ⟨u, us.set o v, [], [], rfl, rfl, h1, RepL.setSc hf cs us o h2⟩
theorem flat_cells1 {v : Value} (hf : flat v = true) : v.cells = #[v] := by
  cases v <;> first | rfl | simp [flat, Value.oneCell'] at hf
theorem Sim.kBuild1 (h : Sim C X a w L G) {slot i off : Nat} {ty : TypeId} {parts : Array (Nat × Operand)} {pl : List (Nat × Nat)} {x : Operand} {v : Value} {zs : List Cell} (hn : lk X.sg slot = none) (hpl : bplaces C.P ty = some pl) (hp : parts.toList = [(i, x)]) (hpi : pl[i]? = some (off, 1)) (hv : Abs.scal X x = some v) (hz : zcell C.P ty = some zs) (hlt : off < zs.length) (ho : o.op = .build ty parts) :
    Mk C (X.set slot (.vir (zs.set off (.sc v)))) a w o (.bor slot none 0 zs.length true) := by
  obtain ⟨i', z, z1, z2, z3, z4, z5⟩ := zcell_some hz
  obtain ⟨hev, hfl⟩ := h.scal hv
  have hzl : zs.length = z.cells.toList.length := (RepL.length (z5 w (C.A G) C.hv)).symm
  have hfin := h.new (w' := w) slot hn (.vir (zs.set off (.sc v))) (.vals (z.cells.toList.set off v)) [] (Ext.refl _ _) List.nodup_nil (fun b hb => nomatch hb) (RepL.setSc hfl _ _ off (z5 _ _ _))
  refine hfin.mkVir (g := true) (set_some _ _ _) (upd_self _ _ _) rfl ?_ (by simp)
  unfold execOp
  rw [ho]
  refine wrapVal (run_build w ty _ _ ?_)
  unfold bplaces at hpl
  split at hpl
  · rename_i fs hu9
    unfold Program.built
    simp only [z1, z2, hu9, hpl]
    rw [Array.toList_map, hp]
    simp only [List.map_cons, List.map_nil, hev, Instr.fill, List.getElem?_toArray, hpi, flat_cells1 hfl]
    rw [if_neg (by
      rw [Array.length_toList] at hzl
      simp
      omega)]
    simp
    apply Array.ext'
    simp
  · cases hpl

end
end Go.Proofs.Ytppfilhlblnmcaa.Abs
/- An abstract machine for the walks, part 13: append; a slice cut; all operations that make objects. No condition. -/
set_option linter.unusedVariables false
namespace Go.Proofs.Ytppfilhlblnmcaa.Abs
open Go

section
variable {C : Cx} {X X' : St} {a : Act} {w : World} {L : Nat → Loc} {G : Nat → List Nat} {o : Oper} {t : T}

/-- An own slice that nobody speaks of grows. -/
theorem Sim.grow (h : Sim C X a w L G) {slot : Nat} {ty ety e : TypeId} {i : TypeInfo} {zs cs ds : List Cell} {v x : Value} {k2 : Option Nat} {s2 : Nat} (hu : Unref X slot) (hs : lk X.sg slot = some (.vir [.sl (some 0) i.size cs])) (hL : L slot = .vals [v])
    (h1 : C.P.underlying ty = some (.slice e)) (h2 : C.P.info? e = some i) (hz : zcell C.P e = some zs) (hpos : 0 < i.size) (hs2 : s2 = i.size ∨ ds = []) (hcp : cpyL ds = true)
    (hx : ∃ F, Rep w (C.A G) C.hv (.sl k2 s2 ds) x F) (hb : (cs.length / i.size + ds.length / i.size) * i.bytes ≤ 140737488355328) (h63 : cs.length / i.size + ds.length / i.size ≤ 9223372036854775807) :
    ∃ v' w' L' G', (Builtin.append_ #[ty, ty] ety #[v, x]).run C.P w = .ok v' w' ∧ Sim C (X.set slot (.vir [.sl (some 0) i.size (cs ++ ds)])) a w' L' G' ∧ L' slot = .vals [v'] := by
  obtain ⟨i', z, z1, z2, z3, z4, _⟩ := zcell_some hz
  rw [h2] at z1
  cases z1
  have h0 := h.ob slot _ hs
  rw [hL] at h0
  obtain ⟨base, n, cap, rfl, hp1, hl1, hnc, _, hb1⟩ := RepL.one h0
  obtain ⟨F, sb, m, c, rfl, hp2, hl2, hmc, _, hb2⟩ := hx
  have hcl : cs.length = n * i.size := hl1.symm
  have hdl : ds.length = m * i.size := by
    rcases hs2 with rfl | rfl
    · exact hl2.symm
    · have h5 : m = 0 := by
        have : m * s2 = 0 := hl2
        rcases Nat.mul_eq_zero.1 this with h5 | h5
        · exact h5
        · omega
      subst h5; simp
  have hdc : cs.length / i.size = n := by rw [hcl]; exact Nat.mul_div_cancel _ hpos
  have hdd : ds.length / i.size = m := by rw [hdl]; exact Nat.mul_div_cancel _ hpos
  rw [hdc, hdd] at hb h63
  -- what is appended
  have hsrc : ∃ news, news.length = m * i.size ∧ (∀ u ∈ news, flat u = true) ∧ RepL w (C.A G) C.hv ds news [] ∧ SrcAt w news m c sb := by
    cases sb with
    | none =>
      obtain ⟨hc0, _⟩ := hb2
      have hm0 : m = 0 := by omega
      subst hm0
      have : ds = [] := List.eq_nil_of_length_eq_zero (by simpa using hdl)
      subst this
      exact ⟨[], by simp, (fun u hu => nomatch hu), ⟨rfl, rfl⟩, rfl, hc0⟩
    | some ad =>
      obtain ⟨hsp, vs, g, hR, hcell, _⟩ := hb2
      have hg0 := RepL.cpy _ _ _ hR hcp
      subst hg0
      exact ⟨vs, by rw [RepL.length hR, hdl], RepL.flat hR, hR, fun hn => hsp (.inr (fun h => hn (by subst h; exact hR.1))), hcell⟩
  obtain ⟨news, hnl, hnf, hnR, hsb⟩ := hsrc
  -- what was there
  have hold : ∃ xs Gx, xs.length = n * i.size ∧ RepL w (C.A G) C.hv cs xs Gx ∧ (match base with | none => cap = 0 ∧ G slot = [] ∧ Gx = [] | some a => a.spot = none ∧ a.off = 0 ∧ G slot = a.block :: Gx ∧ (∃ cur e0, w.heap[a.block]? = some (.cells cur e0 (0, 0)) ∧ cur.size = cap * i.size) ∧ ∀ (j : Nat) u, xs[j]? = some u → w.cell? ⟨a.block, j, none⟩ = some u) := by
    cases base with
    | none =>
      obtain ⟨hc0, hg⟩ := hb1
      have hn0 : n = 0 := by omega
      subst hn0
      have : cs = [] := List.eq_nil_of_length_eq_zero (by simpa using hcl)
      subst this
      exact ⟨[], [], by simp, ⟨rfl, rfl⟩, hc0, hg, rfl⟩
    | some ad =>
      obtain ⟨hsp, vs, g, hR, hcell, ho, hg, hblk⟩ := hb1
      refine ⟨vs, g, by rw [RepL.length hR, hcl], hR, hsp (.inl (fun h => nomatch h)), ho, hg, hblk, fun j u hj => ?_⟩
      have := hcell j u hj
      rw [ho, Nat.zero_add] at this
      exact this
  obtain ⟨xs, Gx, hxl, hxR, hbs⟩ := hold
  have hrun := run_append_rep (P := C.P) w ty ety e i z h1 h2 z2 z4 hpos base n cap xs hxl hnc (by
      cases base with
      | none => exact hbs.1
      | some ad => exact ⟨hbs.1, hbs.2.1, hbs.2.2.2.1, hbs.2.2.2.2⟩) sb m c news hnl hsb hnf h63 hb
  obtain ⟨b', cap', w', k1, k2, k3, k4⟩ := hrun
  have hGx : ∀ b ∈ Gx, b ∈ G slot := by
    cases base with
    | none => intro b hb; rw [hbs.2.2] at hb; cases hb
    | some ad => intro b hb; rw [hbs.2.2.1]; exact List.mem_cons_of_mem _ hb
  have hext : Ext (· ∈ G slot) w w' := ⟨k3.os, k3.tape, k3.output, k3.size, fun b hb hn => k3.block b hb (fun ⟨ad, hba, hbb⟩ => hn (by
    subst hba
    rw [hbs.2.2.1, hbb]
    exact List.mem_cons_self))⟩
  have hkeepG : ∀ b ∈ Gx, w'.heap[b]? = w.heap[b]? := by
    intro b hb
    refine k3.block b (RepL.lt _ _ _ hxR b hb) (fun ⟨ad, hba, hbb⟩ => ?_)
    subst hba
    have hnd := h.nd slot
    rw [hbs.2.2.1] at hnd
    exact (List.nodup_cons.1 hnd).1 (hbb ▸ hb)
  have hA : ∀ F' : List Nat, (∀ b ∈ F', b ∈ G slot ∨ w.heap.size ≤ b) → ∀ b, b < w.heap.size → C.A G b → C.A (upd G slot F') b := by
    intro F' hF b hb hAb
    refine ⟨hAb.1, fun j hj => ?_⟩
    by_cases e : j = slot
    · subst e
      rw [upd_self] at hj
      rcases hF b hj with h5 | h5
      · exact hAb.2 _ h5
      · omega
    · rw [upd_ne _ _ e] at hj
      exact hAb.2 j hj
  have hmov : ∀ (A' : Nat → Prop) (cs' : List Cell) (vv : List Value) (FF : List Nat), (∀ b, b < w.heap.size → C.A G b → A' b) → (∀ b ∈ FF, b ∈ Gx) → RepL w (C.A G) C.hv cs' vv FF → RepL w' A' C.hv cs' vv FF := by
    intro A' cs' vv FF hA' hFF hR
    refine RepL.frame _ _ _ hR (fun b hb hc => ?_) hA'
    rcases hc with hc | hc
    · exact hext.block b hb (hc.2 slot)
    · exact hkeepG b (hFF b hc)
  rcases k4 with ⟨rfl, rfl, rfl, rfl, rfl⟩ | ⟨g, cur, e0, rfl, g1, g2, g3, g4⟩
  · -- nothing was there, nothing comes
    have hd0 : ds = [] := List.eq_nil_of_length_eq_zero (by simpa using hdl)
    subst hd0
    refine ⟨_, _, _, _, k1, h.chg slot (.vir [.sl (some 0) i.size (cs ++ [])]) (.vals [_]) (G slot) hext (h.nd slot) (fun b hb => .inl hb) ?_ (fun t y hy hr => absurd hr (hu t y hy)), upd_self _ _ _⟩
    have e : upd G slot (G slot) = G := by funext i; by_cases hi : i = slot <;> simp [upd, hi]
    rw [e, List.append_nil]
    refine Rep.one ⟨none, n + 0, 0, rfl, hpos, by rw [hcl]; rfl, k2, (fun _ hx => nomatch hx), rfl, hbs.2.1⟩
  · have hF'nd : (g :: Gx).Nodup := by
      refine List.nodup_cons.2 ⟨fun hg => ?_, ?_⟩
      · rcases g4 with ⟨rfl, _⟩ | ⟨ad, rfl, rfl⟩
        · exact Nat.lt_irrefl _ (RepL.lt _ _ _ hxR _ hg)
        · have hnd := h.nd slot
          rw [hbs.2.2.1] at hnd
          exact (List.nodup_cons.1 hnd).1 hg
      · cases base with
        | none => rw [hbs.2.2]; exact List.nodup_nil
        | some ad =>
          have hnd := h.nd slot
          rw [hbs.2.2.1] at hnd
          exact (List.nodup_cons.1 hnd).2
    have hF's : ∀ b ∈ g :: Gx, b ∈ G slot ∨ w.heap.size ≤ b := by
      intro b hb
      rcases List.mem_cons.1 hb with rfl | hb
      · rcases g4 with ⟨rfl, _⟩ | ⟨ad, rfl, rfl⟩
        · exact .inr (Nat.le_refl _)
        · exact .inl (by rw [hbs.2.2.1]; exact List.mem_cons_self)
      · exact .inl (hGx b hb)
    refine ⟨_, _, _, _, k1, h.chg slot (.vir [.sl (some 0) i.size (cs ++ ds)]) (.vals [_]) (g :: Gx) hext hF'nd hF's ?_ (fun t y hy hr => absurd hr (hu t y hy)), upd_self _ _ _⟩
    have hA' := hA _ hF's
    refine Rep.one ⟨some ⟨g, 0, none⟩, n + m, cap', rfl, hpos, by rw [List.length_append, hcl, hdl, Nat.add_mul], k2, (fun _ hx => nomatch hx), (fun _ => rfl), xs ++ news, Gx, ?_, fun j u hj => by rw [Nat.zero_add]; exact g3 j u hj, rfl, rfl, cur, e0, g1, g2⟩
    have := RepL.append (hmov _ _ _ _ hA' (fun b hb => hb) hxR) (hmov _ _ _ [] hA' (fun b hb => nomatch hb) hnR)
    rw [List.append_nil] at this
    exact this

theorem Sim.kAppend (h : Sim C X a w L G) {slot : Nat} {ty e : TypeId} {b x : Operand} {zs : List Cell} (hn : lk X.sg slot = none) (hu : C.P.underlying ty = some (.slice e)) (hz : zcell C.P e = some zs) (hx : evAppend C.P X slot ty e b x = some X') (ho : o.op = .call { callee := .builtin .append, args := #[b, x], argTypes := #[ty, ty] }) : Mk C X' a w o (.bor slot none 0 1 false) := by
  unfold evAppend at hx
  split at hx
  · cases hx
  · rename_i s hs
    obtain ⟨e', i, q1, q2, q3, q4⟩ := elemSz_some hs
    rw [hu] at q1
    cases q1
    subst q3
    split at hx
    · cases hx
    · rename_i X1 hX1
      split at hx
      · rename_i s1 cs k2 s2 ds hsl hxs
        split at hx
        · rename_i hc
          obtain ⟨rfl, c2, c3, c4, c5⟩ := hc
          cases hx
          have hby : C.P.bytesOf e = i.bytes := by simp [Program.bytesOf, q2]
          rw [hby] at c4
          -- the base
          have hbase : ∃ L1 G1, Sim C X1 a w L1 G1 ∧ Unref X1 slot ∧ L1 slot = .vals [a.eval b] := by
            split at hX1
            · rename_i hnil
              cases hX1
              obtain ⟨h1, h2⟩ := h.nil (slot := slot) hn q4
              refine ⟨_, _, h1, h2, ?_⟩
              rw [upd_self]
              unfold isNil at hnil
              split at hnil
              · rfl
              · cases hnil
            · split at hX1
              · rename_i hsb
                obtain ⟨⟨kb, sb, db⟩, hsb⟩ := Option.isSome_iff_exists.1 hsb
                obtain ⟨F, bb, nb, cb, hvb, _⟩ := h.slc hsb
                obtain ⟨L1, G1, cs', k1, k2, k3, k4, k5, k6⟩ := h.gath0 hn hX1
                refine ⟨L1, G1, k1, k4, ?_⟩
                rw [k3, List.map_cons, List.map_nil, List.flatten_cons, List.flatten_nil, List.append_nil, hvb]
                rfl
              · cases hX1
          obtain ⟨L1, G1, m1, m2, m3⟩ := hbase
          obtain ⟨v', w', L', G', r1, r2, r3⟩ := m1.grow (ety := o.type) m2 hsl m3 hu q2 hz q4 c2 c3 (m1.slc hxs) c4 c5
          refine r2.mkVir (g := false) (set_some _ _ _) r3 rfl ?_ rfl
          unfold execOp
          rw [ho]
          simp only [resolve, List.map_toArray, List.map_cons, List.map_nil, Sem.run_bind, Sem.run_pure, Result.andThen_ok, invoke, builtin, r1]
        · cases hx
      · cases hx

end
end Go.Proofs.Ytppfilhlblnmcaa.Abs
/- An abstract machine for the walks, part 14: an own slice cut; all operations that make objects; a store. No condition. -/
set_option linter.unusedVariables false
namespace Go.Proofs.Ytppfilhlblnmcaa.Abs
open Go

section
variable {C : Cx} {X X' : St} {a : Act} {w : World} {L : Nat → Loc} {G : Nat → List Nat} {o : Oper} {t : T}

theorem Sim.kCut (h : Sim C X a w L G) {slot s hh : Nat} {ty : TypeId} {x hi : Operand} {X1 : St} {cs : List Cell} (hn : lk X.sg slot = none) (he : elemSz C.P ty = some s) (hsb : (Abs.slc X x).isSome = true) (hg : Abs.gath (X.set slot (.vir [])) slot [(x, some 1)] = some X1) (hs : lk X1.sg slot = some (.vir [.sl (some 0) s cs]))
    (hb : Abs.bnd X1 (some hi) (cs.length / s) 0 = some hh) (ho : o.op = .slice ty x none (some hi) none) : Mk C (X1.set slot (.vir [.sl (some 0) s (cs.take (hh * s))])) a w o (.bor slot none 0 1 false) := by
  obtain ⟨e, i, q1, q2, q3, q4⟩ := elemSz_some he
  subst q3
  obtain ⟨⟨kb, sb, db⟩, hsb⟩ := Option.isSome_iff_exists.1 hsb
  obtain ⟨_, base, len, cap, hvb, _⟩ := h.slc hsb
  obtain ⟨L1, G1, cs', k1, k2, k3, k4, k5, k6⟩ := h.gath0 hn hg
  have hv1 : (Value.slice base len cap).cells.toList = [.slice base len cap] := rfl
  rw [List.map_cons, List.map_nil, List.flatten_cons, List.flatten_nil, List.append_nil, hvb, hv1] at k3
  have h0 := k1.ob slot _ hs
  rw [k3] at h0
  obtain ⟨_, _, _, he', hpos, hl, hcap, _, hbb⟩ := RepL.one h0
  cases he'
  have hdiv : cs.length / i.size = len := by rw [← hl]; exact Nat.mul_div_cancel _ hpos
  rw [hdiv] at hb
  rcases k1.bnd hb with ⟨hx, _⟩ | ⟨y, k, hy, hyv, hle⟩
  · cases hx
  cases hy
  have hrun : (execOp a.eval o).run C.P w = .ok (.value (.slice base hh cap)) w := by
    unfold execOp
    rw [ho]
    refine wrapVal ?_
    have hsb : (Instr.sliceBound (.int k hh) cap .sliceAcap).run C.P w = .ok hh w := by
      simp only [Instr.sliceBound, asIntOf, Sem.run_bind, Sem.run_pure, Result.andThen_ok]
      rw [if_pos ⟨by omega, by omega⟩]
      simp
    simp only [hvb, Instr.sliceAt, Sem.run_bind, run_underlying q1, Result.andThen_ok, Instr.slice, Option.map_none, Option.map_some, Instr.sliceBounds, hyv, Sem.run_pure, hsb, run_sizeOf' q2, Nat.zero_mul, Nat.sub_zero, if_true]
    have : (if cap = 0 then base else base.map fun x : Addr => x.add 0) = base := by
      split
      · rfl
      · cases base <;> rfl
    rw [this]
  have hmul : hh * i.size ≤ cs.length := by rw [← hl]; exact Nat.mul_le_mul_right _ hle
  -- what is kept
  have hfin : ∃ F', F'.Nodup ∧ (∀ b ∈ F', b ∈ G1 slot) ∧ ∀ A', (∀ b, b < w.heap.size → C.A G1 b → A' b) → Rep w A' C.hv (.sl (some 0) i.size (cs.take (hh * i.size))) (.slice base hh cap) F' := by
    cases base with
    | none =>
      obtain ⟨hc0, hg0⟩ := hbb
      refine ⟨[], List.nodup_nil, (fun b hb => nomatch hb), fun A' hA => ⟨none, hh, cap, rfl, hpos, by rw [List.length_take]; omega, by omega, (fun _ hx => nomatch hx), hc0, rfl⟩⟩
    | some ad =>
      obtain ⟨hsp, us, g, hR, hcell, ha0, hgs, c, e0, hblk, hsz⟩ := hbb
      obtain ⟨u1, u2, u3, F1, F2, F3, rfl, hl1, hl2, rfl, r1, r2, r3⟩ := RepL.mid hR 0 (hh * i.size) (by omega)
      have e1 : u1 = [] := List.eq_nil_of_length_eq_zero hl1
      subst e1
      have hF1 : F1 = [] := by rw [List.take_zero] at r1; exact r1.2
      subst hF1
      rw [List.drop_zero] at r2
      have hnd := k1.nd slot
      rw [hgs] at hnd
      refine ⟨ad.block :: F2, ?_, ?_, fun A' hA => ⟨some ad, hh, cap, rfl, hpos, by rw [List.length_take]; omega, by omega, (fun _ hx => nomatch hx), (fun _ => hsp (.inl (fun h => nomatch h))), u2, F2, RepL.frame _ _ _ r2 (fun _ _ _ => rfl) hA, fun j u hj => hcell j u ?_, ha0, rfl, c, e0, hblk, hsz⟩⟩
      · refine List.Nodup.sublist (List.Sublist.cons_cons _ ?_) hnd
        rw [List.nil_append]
        exact List.sublist_append_left F2 F3
      · intro b hb
        rw [hgs]
        rcases List.mem_cons.1 hb with rfl | hb
        · exact List.mem_cons_self
        · exact List.mem_cons_of_mem _ (by simp [hb])
      · rw [List.nil_append, List.getElem?_append_left (List.getElem?_eq_some_iff.1 hj).1]
        exact hj
  obtain ⟨F', hF1, hF2, hF3⟩ := hfin
  have hsim := k1.fin k4 (.refl No w) (.vir [.sl (some 0) i.size (cs.take (hh * i.size))]) (.vals [.slice base hh cap]) F' hF1 (fun b hb => .inl (hF2 b hb)) (Rep.one (hF3 _ (fun b hb hA => ⟨hA.1, fun j hj => by
    by_cases e : j = slot
    · subst e; rw [upd_self] at hj; exact hA.2 _ (hF2 b hj)
    · rw [upd_ne _ _ e] at hj; exact hA.2 j hj⟩)))
  exact hsim.mkVir (g := false) (set_some _ _ _) (upd_self _ _ _) rfl hrun rfl

/-- An operation that makes an object does so. -/
theorem Sim.yN (h : Sim C X a w L G) {slot : Nat} (hx : evN C.P X o slot = some (X', t)) : Mk C X' a w o t := by
  unfold evN at hx
  split at hx
  · cases hx
  rename_i hn
  split at hx
  · rename_i x ho
    split at hx
    · rename_i hnil
      cases he : elemSz C.P o.type with
      | none => rw [he] at hx; cases hx
      | some s => rw [he] at hx; cases hx; exact h.kNil hn hnil he (.inl ho)
    · cases hx
  · rename_i x ho
    split at hx
    · rename_i hnil
      cases he : elemSz C.P o.type with
      | none => rw [he] at hx; cases hx
      | some s => rw [he] at hx; cases hx; exact h.kNil hn hnil he (.inr ho)
    · cases hx
  · rename_i ty ho
    cases hz : zcell C.P ty with
    | none => rw [hz] at hx; cases hx
    | some zs => rw [hz] at hx; cases hx; exact h.kAlloc hn hz ho
  · rename_i ty x ho
    split at hx
    · rename_i X1 hg
      split at hx
      · rename_i cs hs
        cases hx
        exact h.kBox hn hg hs ho
      · cases hx
    · cases hx
  · rename_i ty parts ho
    split at hx
    · rename_i pl xs zs hpl hxs hz
      split at hx
      · rename_i hc
        split at hx
        · rename_i X1 hg
          split at hx
          · rename_i cs hs
            cases hx
            exact h.kBuild hn hpl hxs hz hc.1 hc.2 hg hs ho
          · cases hx
        · cases hx
      · split at hx
        · rename_i n1 hcon
          split at hx
          · rename_i hc
            split at hx
            · rename_i X1 hg
              split at hx
              · rename_i cs hs
                cases hx
                exact h.kBuildP hn hpl hxs hz hcon hc.2.1 hc.2.2 hg hs ho
              · cases hx
            · cases hx
          · cases hx
        · cases hx
    · rename_i pl zs hpl hxs hz
      split at hx
      · rename_i i x hp
        split at hx
        · rename_i off v hpi hv
          split at hx
          · rename_i hlt
            cases hx
            exact h.kBuild1 hn hpl hp hpi hv hz hlt ho
          · cases hx
        · cases hx
      · cases hx
    · cases hx
  · rename_i ty len parts ho
    split at hx
    · rename_i s xs zs he hxs hz
      split at hx
      · rename_i hc
        split at hx
        · rename_i X1 hg
          split at hx
          · rename_i cs hs
            cases hx
            obtain ⟨e, i, q1, _⟩ := elemSz_some he
            rw [q1] at hz
            exact h.kBuildSlice hn he q1 hxs hz hc.1 hc.2 hg hs ho
          · cases hx
        · cases hx
      · cases hx
    · cases hx
  · rename_i ty l c ho
    split at hx
    · rename_i s k n k' m e zs he hl hc hz
      split at hx
      · rename_i hcc
        cases hx
        obtain ⟨e', i, q1, _⟩ := elemSz_some he
        rw [q1] at hz
        simp only at hz
        cases hz' : zcell C.P e' with
        | none => rw [hz'] at hz; cases hz
        | some z =>
          rw [hz'] at hz
          cases hz
          obtain ⟨rfl, c1, c2, c3⟩ := hcc
          exact h.kMake hn he q1 hz' hl hc c1 c2 c3 ho
      · cases hx
    · cases hx
  · rename_i b x ty ty' ho
    split at hx
    · rename_i htt
      subst htt
      split at hx
      · rename_i e hu
        split at hx
        · rename_i zs hz
          cases hap : evAppend C.P X slot ty e b x with
          | none => rw [hap] at hx; cases hx
          | some X1 => rw [hap] at hx; cases hx; exact h.kAppend hn hu hz hap ho
        · cases hx
      · cases hx
    · cases hx
  · rename_i ty x hi ho
    split at hx
    · rename_i s X1 he hg
      split at hx
      · rename_i s' cs hs
        split at hx
        · rename_i hss
          subst hss
          split at hx
          · rename_i hh hb
            cases hx
            split at hg
            · rename_i hsb
              exact h.kCut hn he hsb hg hs hb ho
            · cases hg
          · cases hx
        · cases hx
      · cases hx
    · cases hx
  · rename_i s d x ho
    cases hb : evBytes C.P X s d x with
    | none => rw [hb] at hx; cases hx
    | some b => rw [hb] at hx; cases hx; exact h.kBytes hn hb ho
  · cases hx

end
end Go.Proofs.Ytppfilhlblnmcaa.Abs
