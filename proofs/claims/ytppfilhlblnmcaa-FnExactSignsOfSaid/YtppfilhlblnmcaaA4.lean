/- An abstract machine for the walks: values and objects without addresses, an evaluator of the operations, sound for the model's walk. No condition. -/
import Derived.Test.YtppfilhlblnmcaaA3
/- An abstract machine for the walks, part 32: rules for proofs about a function's code, drawn regions. No condition. -/
set_option linter.unusedVariables false
namespace Go.Proofs.Ytppfilhlblnmcaa.Abs
open Go

/-- Operations that turn nothing, in this order. -/
def evD (P : Program) (nt : Nat) (fx : List Nat) (ops : Array Oper) : List Nat → St → Option St
  | [], X => some X
  | i :: r, X => match ops[i]? with
    | none => none
    | some o => match o.dst with
      | none => none
      | some d => if d ∉ fx ∧ d < nt then match want X ops o with
          | none => none
          | some false => evD P nt fx ops r { X with env := ins X.env d uT }
          | some true => match evV P X o with
            | some t => evD P nt fx ops r { X with env := ins X.env d t }
            | none => none
        else none
def evE (P : Program) (nt : Nat) (fx : List Nat) (ops : Array Oper) : List Oper → St → Option St
  | [], X => some X
  | o :: r, X => match o.dst with
    | none => none
    | some d => if d ∉ fx ∧ d < nt then match want X ops o with
        | none => none
        | some false => evE P nt fx ops r { X with env := ins X.env d uT }
        | some true => match evV P X o with
          | some t => evE P nt fx ops r { X with env := ins X.env d t }
          | none => none
      else none
def noneL (l : List Nat) : List (Nat × Option (List Nat)) := l.map fun i => (i, none)
section
variable {an : An} {C : Cx} {P : Program} {nt : Nat} {fx : List Nat} {X X' : St} {ops : Array Oper} {K : List Item}
theorem goD.vs (hP : C.P = P) (hn : C.nt = nt) (hx : C.fx = fx) {r : List (Nat × Option (List Nat))} : ∀ (l : List Nat) {X X' : St}, evD P nt fx ops l X = some X' → goD an C ops K r X' → goD an C ops K (noneL l ++ r) X
  | [], X, X', e, h => by cases e; exact h
  | i :: l, X, X', e, h => by
    unfold evD at e
    show goD an C ops K ((i, none) :: (noneL l ++ r)) X
    unfold goD
    cases ho : ops[i]? with
    | none => rw [ho] at e; cases e
    | some o =>
      rw [ho] at e
      simp only at e ⊢
      cases hd : o.dst with
      | none => rw [hd] at e; cases e
      | some d =>
        rw [hd] at e
        simp only at e ⊢
        split at e
        · rename_i hc
          rw [← hx, ← hn] at hc
          split at e
          · cases e
          · rename_i hw
            rw [hw]
            exact ⟨hc.1, hc.2, (fun j hj => nomatch hj), goD.vs hP hn hx l e h⟩
          · rename_i hw
            rw [hw]
            simp only
            refine ⟨hc.1, hc.2, ?_⟩
            split at e
            · rename_i t ht
              rw [hP, ht]
              exact goD.vs hP hn hx l e h
            · cases e
        · cases e
theorem goD.end (h : Ok C K X) : goD an C ops K [] X := h
theorem goD.c (hP : C.P = P) (hn : C.nt = nt) (hx : C.fx = fx) {i : Nat} {q : List Nat} {r : List (Nat × Option (List Nat))} {o : Oper} {f : Operand} {xs : Array Operand} {ts : Array TypeId} {fid : FuncId} {args outs : List Arg} {l m : List Nat} {res : List (Bool × List Cell)} (ho : ops[i]? = some o) (hop : o.op = .call { callee := .value f, args := xs, argTypes := ts }) (hw : want X ops o = some true) (hp : prep an X f xs.toList = some (fid, args, l, m)) (hc : ACalls P fid args res outs)
    (ha : after nt fx X args outs l m res (100 + 8 * i) o.dst = some X') (hq : ∀ j ∈ q, StabD C ops X' j) (h : goD an C ops K r X') : goD an C ops K ((i, some q) :: r) X := by
  unfold goD
  rw [ho]
  have hic : isCall o.op = true := by rw [hop]; rfl
  simp only [hw, hic]
  exact .inr ⟨f, xs, ts, fid, args, outs, l, m, res, X', hop, hp, hP ▸ hc, by rw [hn, hx]; exact ha, hq, h⟩
theorem goD.w (hP : C.P = P) (hn : C.nt = nt) (hx : C.fx = fx) {i : Nat} {q : List Nat} {r : List (Nat × Option (List Nat))} {o : Oper} (ho : ops[i]? = some o) (hic : isCall o.op = false) (hw : want X ops o = some true) (e : act1 P nt fx X o (100 + 8 * i) = some X') (hq : ∀ j ∈ q, StabD C ops X' j) (h : goD an C ops K r X') : goD an C ops K ((i, some q) :: r) X := by
  unfold goD
  rw [ho]
  simp only [hw, hic]
  rw [hP, hn, hx, e]
  exact ⟨hq, h⟩
/-- A drawn region none of whose operations turns memory. -/
theorem Ok.rgD (an : An) (hP : C.P = P) (hn : C.nt = nt) (hx : C.fx = fx) (hm : P.follows .mixedOrders = true) {id : Nat} (hd : drawD ops (noneL (List.range ops.size)) = true) (e : evD P nt fx ops (List.range ops.size) X = some X') (h : Ok C K X') : Ok C (.code (.region id ops true) :: K) X := by
  refine Ok.goD (an := an) (noneL (List.range ops.size)) (hP ▸ hm) hd ?_
  have := goD.vs (an := an) (K := K) (r := []) hP hn hx (List.range ops.size) e h
  rwa [List.append_nil] at this
/-- As evD, along the list. -/
theorem evE_D : ∀ (l : List Oper) (i : Nat) {X X' : St}, (∀ k o, l[k]? = some o → ops[i + k]? = some o) → evE P nt fx ops l X = some X' → evD P nt fx ops (List.range' i l.length) X = some X'
  | [], i, X, X', _, e => e
  | o :: l, i, X, X', hl, e => by
    rw [List.length_cons, List.range'_succ]
    unfold evD
    have h0 : ops[i]? = some o := hl 0 o rfl
    have hl' : ∀ k o', l[k]? = some o' → ops[i + 1 + k]? = some o' := fun k o' hk => by
      have := hl (k + 1) o' (by simpa using hk)
      rw [show i + 1 + k = i + (k + 1) by omega]
      exact this
    rw [h0]
    unfold evE at e
    simp only
    cases hd : o.dst with
    | none => rw [hd] at e; cases e
    | some d =>
      rw [hd] at e
      simp only at e ⊢
      split at e
      · rename_i hc
        rw [if_pos hc]
        split at e
        · cases e
        · rename_i hw
          exact evE_D l (i + 1) hl' e
        · rename_i hw
          split at e
          · rename_i t ht
            exact evE_D l (i + 1) hl' e
          · cases e
      · cases e
/-- A drawn region none of whose operations turns memory. -/
theorem Ok.rgE (an : An) (hP : C.P = P) (hn : C.nt = nt) (hx : C.fx = fx) (hm : P.follows .mixedOrders = true) {id : Nat} (hd : drawD ops (noneL (List.range ops.size)) = true) (e : evE P nt fx ops ops.toList X = some X') (h : Ok C K X') : Ok C (.code (.region id ops true) :: K) X :=
  Ok.rgD an hP hn hx hm hd (by
    have := evE_D ops.toList 0 (fun k o hk => by rw [Nat.zero_add, ← Array.getElem?_toList]; exact hk) e
    rwa [Array.length_toList, ← List.range_eq_range'] at this) h
/-- A region in the text's order, no call in it. -/
theorem Ok.rgN (an : An) (hP : C.P = P) (hn : C.nt = nt) (hx : C.fx = fx) {id : Nat} (hc : noCall ops.toList = true) (e : evR P nt fx ops 0 ops.toList X = some X') (h : Ok C K X') : Ok C (.code (.region id ops false) :: K) X := by
  refine Ok.gE an (goE.v hP hn hx ops.size ?_ ⟨Nat.zero_le _, Nat.le_refl _⟩ ?_ (goE.end h))
  · rw [List.drop_zero, Nat.sub_zero, ← Array.length_toList, List.take_length]; exact hc
  · rw [List.drop_zero, Nat.sub_zero, ← Array.length_toList, List.take_length]; exact e
end
end Go.Proofs.Ytppfilhlblnmcaa.Abs
