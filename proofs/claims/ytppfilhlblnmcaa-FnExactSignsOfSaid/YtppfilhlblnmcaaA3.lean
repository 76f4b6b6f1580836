/- An abstract machine for the walks: values and objects without addresses, an evaluator of the operations, sound for the model's walk. No condition. -/
import Derived.Test.YtppfilhlblnmcaaA2
import Derived.RowKit
/- An abstract machine for the walks, part 31: rules for proofs about a function's code, as small goals; lists of elements. No condition. -/
set_option linter.unusedVariables false
namespace Go.Proofs.Ytppfilhlblnmcaa.Abs
open Go

/-- Operations i on, none of them a call. -/
def evR (P : Program) (nt : Nat) (fx : List Nat) (ops : Array Oper) : Nat → List Oper → St → Option St
  | _, [], X => some X
  | i, o :: r, X => match want X ops o with
    | none => none
    | some false => match o.dst with
      | some d => if d ∉ fx ∧ d < nt then evR P nt fx ops (i + 1) r { X with env := ins X.env d uT } else none
      | none => none
    | some true => match act1 P nt fx X o (100 + 8 * i) with
      | some Y => evR P nt fx ops (i + 1) r Y
      | none => none
/-- Operations i on, then K. -/
def goE (an : An) (C : Cx) (ops : Array Oper) (K : List Item) (i : Nat) (X : St) : Prop := ∀ n, n = ops.size - i → goR an C ops K (List.range' i n) X

section
variable {an : An} {C : Cx} {P : Program} {nt : Nat} {fx : List Nat} {X X' : St} {ops : Array Oper} {K : List Item}

theorem evR_go (hP : C.P = P) (hn : C.nt = nt) (hx : C.fx = fx) : ∀ (l : List Oper) (i m : Nat) (X X' : St), (∀ k o, l[k]? = some o → ops[i + k]? = some o ∧ isCall o.op = false) → evR P nt fx ops i l X = some X' → goR an C ops K (List.range' (i + l.length) m) X' → goR an C ops K (List.range' i (l.length + m)) X
  | [], i, m, X, X', _, he, h => by
    cases he
    simpa using h
  | o :: r, i, m, X, X', hl, he, h => by
    obtain ⟨h0, hc⟩ := hl 0 o rfl
    rw [List.length_cons, show r.length + 1 + m = (r.length + m) + 1 by omega, List.range'_succ]
    unfold goR
    rw [show ops[i]? = some o from h0]
    simp only
    have hl' : ∀ k o', r[k]? = some o' → ops[i + 1 + k]? = some o' ∧ isCall o'.op = false := fun k o' hk => by
      have := hl (k + 1) o' (by simpa using hk)
      rw [show i + 1 + k = i + (k + 1) by omega]
      exact this
    have hlen : i + (o :: r).length = i + 1 + r.length := by rw [List.length_cons]; omega
    rw [hlen] at h
    unfold evR at he
    cases hw : want X ops o with
    | none => rw [hw] at he; cases he
    | some b =>
      rw [hw] at he
      cases b with
      | false =>
        simp only at he ⊢
        cases hd : o.dst with
        | none => rw [hd] at he; cases he
        | some d =>
          rw [hd] at he
          simp only at he ⊢
          split at he
          · rename_i hf
            exact ⟨⟨by rw [hx]; exact hf.1, by rw [hn]; exact hf.2⟩, evR_go hP hn hx r (i + 1) m _ X' hl' he h⟩
          · cases he
      | true =>
        simp only [hc, hP, hn, hx] at he ⊢
        split at he
        · rename_i Y hY
          first
            | exact evR_go hP hn hx r (i + 1) m _ X' hl' he h
            | (rw [hY]; exact evR_go hP hn hx r (i + 1) m _ X' hl' he h)
        · cases he
def noCall (l : List Oper) : Bool := l.all fun o => !isCall o.op
theorem Ok.gE (an : An) {id : Nat} (h : goE an C ops K 0 X) : Ok C (.code (.region id ops false) :: K) X :=
  Ok.go (an := an) (by rw [List.range_eq_range']; exact h _ (by simp))
theorem goE.v (hP : C.P = P) (hn : C.nt = nt) (hx : C.fx = fx) {i : Nat} (j : Nat) (hc : noCall ((ops.toList.drop i).take (j - i)) = true) (hj : (i ≤ j ∧ j ≤ ops.size)) (e : evR P nt fx ops i ((ops.toList.drop i).take (j - i)) X = some X') (h : goE an C ops K j X') : goE an C ops K i X := by
  intro n hN
  subst hN
  have hl : ((ops.toList.drop i).take (j - i)).length = j - i := by
    rw [List.length_take, List.length_drop, Array.length_toList]; omega
  have := evR_go (an := an) (K := K) hP hn hx ((ops.toList.drop i).take (j - i)) i (ops.size - j) X X' (fun k o hk => by
    have h1 := List.all_eq_true.1 hc o (List.mem_of_getElem? hk)
    rw [List.getElem?_take] at hk
    split at hk
    · rw [List.getElem?_drop, Array.getElem?_toList] at hk
      exact ⟨hk, by simpa using h1⟩
    · cases hk) e (by rw [hl, show i + (j - i) = j by omega]; exact h _ rfl)
  rw [hl, show j - i + (ops.size - j) = ops.size - i by omega] at this
  exact this
theorem goE.end (h : Ok C K X) : goE an C ops K ops.size X := by
  intro n hN
  rw [Nat.sub_self] at hN
  subst hN
  exact h
theorem goE.c (hP : C.P = P) (hn : C.nt = nt) (hx : C.fx = fx) {i : Nat} {o : Oper} {f : Operand} {xs : Array Operand} {ts : Array TypeId} {fid : FuncId} {args outs : List Arg} {l m : List Nat} {res : List (Bool × List Cell)} (ho : ops[i]? = some o) (hop : o.op = .call { callee := .value f, args := xs, argTypes := ts }) (hw : want X ops o = some true) (hp : prep an X f xs.toList = some (fid, args, l, m)) (hc : ACalls P fid args res outs)
    (ha : after nt fx X args outs l m res (100 + 8 * i) o.dst = some X') (h : goE an C ops K (i + 1) X') : goE an C ops K i X := by
  intro n hN
  subst hN
  have hlt : i < ops.size := (Array.getElem?_eq_some_iff.1 ho).1
  rw [show ops.size - i = (ops.size - (i + 1)) + 1 by omega, List.range'_succ]
  unfold goR
  rw [ho]
  have hic : isCall o.op = true := by rw [hop]; rfl
  simp only [hw, hic]
  exact .inr ⟨f, xs, ts, fid, args, outs, l, m, res, X', hop, hp, hP ▸ hc, by rw [hn, hx]; exact ha, h _ rfl⟩
theorem Ok.condT {c : Operand} {x y : Code} (hc : scal X c = some (.bool true)) (h : Ok C (.code x :: K) X) : Ok C (.code (.cond c x y) :: K) X := Ok.cond hc (by simpa using h)
theorem Ok.condF {c : Operand} {x y : Code} (hc : scal X c = some (.bool false)) (h : Ok C (.code y :: K) X) : Ok C (.code (.cond c x y) :: K) X := Ok.cond hc (by simpa using h)
theorem Ok.tidy' (vs : List Nat) (e : Abs.tidy vs X = X') (h : Ok C K X') : Ok C K X := Ok.tidy vs (e ▸ h)
/-- Back: the results and what was handed over are as they must be. -/
theorem Ok.back {args outs : List Arg} {F : List Nat} {res res' : List (Bool × List Cell)} (hC : Good C args F res outs) {fn : Func} (hP : C.P = P) (hf : P.funcs[C.fid]? = some fn) (hx : C.fx = fixed 0 args) {p : St × List (Bool × List Cell × Option Nat)} {ids : List Nat} {outs' : List Arg} (hk : keysLt 1000 X.sg = true) (hfin : Abs.fin P X 1000 fn.results.toList = some p) (hres : finRes p.2 = res') (hmut : finMut p.2 = true)
    (hlv : Abs.leaveA p.1 0 args = some (outs', ids)) (hids : onceB ids = true) (hidl : allLt 1000 ids = true) (e1 : res' = res) (e2 : outs' = outs) : Ok C (.code .ret :: K) X :=
  Ok.ret (hP ▸ hf) (hC.leave hx hk (hP ▸ hfin) (hres.trans e1) hmut (e2 ▸ hlv) hids hidl)
/-- The same at the body's end. -/
theorem Ok.backE {args outs : List Arg} {F : List Nat} {res res' : List (Bool × List Cell)} (hC : Good C args F res outs) {fn : Func} (hP : C.P = P) (hf : P.funcs[C.fid]? = some fn) (hx : C.fx = fixed 0 args) {p : St × List (Bool × List Cell × Option Nat)} {ids : List Nat} {outs' : List Arg} (hk : keysLt 1000 X.sg = true) (hfin : Abs.fin P X 1000 fn.results.toList = some p) (hres : finRes p.2 = res') (hmut : finMut p.2 = true)
    (hlv : Abs.leaveA p.1 0 args = some (outs', ids)) (hids : onceB ids = true) (hidl : allLt 1000 ids = true) (e1 : res' = res) (e2 : outs' = outs) : Ok C [] X :=
  Ok.done (hP ▸ hf) (hC.leave hx hk (hP ▸ hfin) (hres.trans e1) hmut (e2 ▸ hlv) hids hidl)
end

/-! Cells in line. -/
theorem cpyL_append : ∀ (a b : List Cell), cpyL (a ++ b) = (cpyL a && cpyL b)
  | [], b => by simp [cpyL]
  | c :: a, b => by simp [cpyL, cpyL_append a b, Bool.and_assoc]
theorem noMutL_append : ∀ (a b : List Cell), noMutL (a ++ b) = (noMutL a && noMutL b)
  | [], b => by simp [noMutL]
  | c :: a, b => by simp [noMutL, noMutL_append a b, Bool.and_assoc]
theorem pureL_append : ∀ (a b : List Cell), pureL (a ++ b) = (pureL a && pureL b)
  | [], b => by simp [pureL]
  | c :: a, b => by simp [pureL, pureL_append a b, Bool.and_assoc]
theorem shrL_append : ∀ (a b : List Cell), shrL (a ++ b) = shrL a ++ shrL b
  | [], b => by simp [shrL]
  | c :: a, b => by simp [shrL, shrL_append a b]
section
variable {α : Type} {e e' : α → List Cell}
theorem cpyL_map (h : ∀ x, cpyL (e x) = true) : ∀ (l : List α), cpyL (l.flatMap e) = true
  | [] => rfl
  | x :: l => by rw [List.flatMap_cons, cpyL_append, h, cpyL_map h l]; rfl
theorem noMutL_map (h : ∀ x, noMutL (e x) = true) : ∀ (l : List α), noMutL (l.flatMap e) = true
  | [] => rfl
  | x :: l => by rw [List.flatMap_cons, noMutL_append, h, noMutL_map h l]; rfl
theorem pureL_map (h : ∀ x, pureL (e x) = true) : ∀ (l : List α), pureL (l.flatMap e) = true
  | [] => rfl
  | x :: l => by rw [List.flatMap_cons, pureL_append, h, pureL_map h l]; rfl
theorem shrL_map (h : ∀ x, shrL (e x) = e' x) : ∀ (l : List α), shrL (l.flatMap e) = l.flatMap e'
  | [] => rfl
  | x :: l => by rw [List.flatMap_cons, shrL_append, h, shrL_map h l]; rfl
theorem replicate_map (x : α) (n : Nat) : (List.replicate n (e x)).flatten = (List.replicate n x).flatMap e := by
  induction n with
  | zero => rfl
  | succ n ih => rw [List.replicate_succ, List.replicate_succ, List.flatten_cons, List.flatMap_cons, ih]
end
/-- An int, a string, in a cell. -/
def eI (x : Int) : List Cell := [.sc (.int .i64 x)]
def eS (x : ByteArray) : List Cell := [.sc (.string x)]
def eB (x : Bool) : List Cell := [.sc (.bool x)]
theorem eI_len : ∀ x, (eI x).length = 1 := fun _ => rfl
theorem eS_len : ∀ x, (eS x).length = 1 := fun _ => rfl
theorem eI_cpy : ∀ x, cpyL (eI x) = true := fun _ => rfl
theorem eS_cpy : ∀ x, cpyL (eS x) = true := fun _ => rfl
theorem eI_nm : ∀ x, noMutL (eI x) = true := fun _ => rfl
theorem eS_nm : ∀ x, noMutL (eS x) = true := fun _ => rfl
theorem eI_pure : ∀ x, pureL (eI x) = true := fun _ => rfl
theorem eS_pure : ∀ x, pureL (eS x) = true := fun _ => rfl
theorem eI_shr : ∀ x, shrL (eI x) = eI x := fun _ => rfl
theorem eS_shr : ∀ x, shrL (eS x) = eS x := fun _ => rfl
theorem wrap_i64 (n : Int) : IntKind.wrap .i64 n = RowKit.wrap64 n := by first | rfl | (unfold RowKit.wrap64 IntKind.wrap; simp [IntKind.bits, IntKind.signed]; split <;> omega)
theorem bytes_eq (x y : ByteArray) : (x = y) = (x.toList = y.toList) := propext ⟨fun h => h ▸ rfl, fun h => ByteArray.ext (Array.ext' (by
  have hx : ∀ z : ByteArray, z.toList = z.data.toList := fun z => Go.ByteArray.toList_eq z
  rw [← hx, ← hx, h]))⟩
end Go.Proofs.Ytppfilhlblnmcaa.Abs
