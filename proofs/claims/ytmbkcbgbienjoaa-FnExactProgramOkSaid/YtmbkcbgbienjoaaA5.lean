/- An abstract machine for the walks: values and objects without addresses, an evaluator of the operations, sound for the model's walk. No condition. -/
import Derived.Test.YtmbkcbgbienjoaaA4
import Derived.KernelRfl
import Derived.ChangeArms
import Derived.Deep.Slices
import Derived.WideShapes
import Derived.DataReads
import Derived.Below
import Derived.Test.YtmbkcbgbienjoaaOpn
/- An abstract machine for the walks, part 33: the rules with their evaluations. No condition. -/
set_option linter.unusedVariables false
namespace Go.Proofs.Ytmbkcbgbienjoaa.Abs
open Go

/-! Small goals, each with the tactic that settles it: a rule is applied first, then its goals are settled. -/
structure BS (p : Prop) : Prop where
  out : p
theorem BS.go {p : Prop} (h : p := by simp (disch := omega) only [*, go_sem, eq_self, if_pos, Nat.reduceAdd, Nat.reduceMul, Nat.reduceSub, Nat.reduceDiv, Nat.reduceLT, Nat.reduceEqDiff, Nat.reduceLeDiff, Int.reduceLE, Int.reduceLT, Int.reduceEq, Int.reduceToNat, ↓reduceIte, reduceCtorEq, Nat.reduceBEq, Nat.reduceBeqDiff, Nat.reduceBneDiff, List.reduceReplicate]; rfl) : BS p := ⟨h⟩
structure BT (p : Prop) : Prop where
  out : p
theorem BT.go {p : Prop} (h : p := by simp only [go_sem, Nat.reduceAdd, Nat.reduceLT, Nat.reduceEqDiff, ↓reduceIte, reduceCtorEq, Nat.reduceBEq, beq_self_eq_true, Bool.false_eq_true]; rfl) : BT p := ⟨h⟩
structure BE (p : Prop) : Prop where
  out : p
theorem BE.go {p : Prop} (h : p := by simp only [go_sem, Nat.reduceLT, Nat.reduceEqDiff, ↓reduceIte, reduceCtorEq]; rfl) : BE p := ⟨h⟩
structure BW (p : Prop) : Prop where
  out : p
theorem BW.go {p : Prop} (h : p := by first | rfl | (simp (disch := omega) only [*, go_sem, eq_self, Nat.reduceLT, Nat.reduceEqDiff, ↓reduceIte, reduceCtorEq, Nat.reduceBEq, Nat.reduceBeqDiff, Nat.reduceBneDiff]; rfl)) : BW p := ⟨h⟩
structure BR (p : Prop) : Prop where
  out : p
theorem BR.go {p : Prop} (h : p := by rfl) : BR p := ⟨h⟩
structure BK (p : Prop) : Prop where
  out : p
theorem BK.go {p : Prop} (h : p := by kernel_rfl) : BK p := ⟨h⟩
structure BG (p : Prop) : Prop where
  out : p
theorem BG.go {p : Prop} (h : p := by simp only [List.getElem?_toArray, List.getElem?_cons_zero, List.getElem?_cons_succ]; rfl) : BG p := ⟨h⟩
structure BF (p : Prop) : Prop where
  out : p
theorem BF.go {p : Prop} (h : p := by simp only [go_sem, Nat.reduceAdd, Nat.reduceLT, Nat.reduceEqDiff, Nat.reduceLeDiff, ↓reduceIte, reduceCtorEq]; rfl) : BF p := ⟨h⟩
structure BJ (p : Prop) : Prop where
  out : p
theorem BJ.go {p : Prop} (h : p := by simp only [nextCall, isCall, List.takeWhile_cons, List.takeWhile_nil, List.drop_zero, List.drop_succ_cons, List.length_cons, List.length_nil, Bool.not_false, Bool.not_true, Bool.false_eq_true, Nat.reduceAdd, Nat.zero_add, Nat.add_zero, ↓reduceIte]; rfl) : BJ p := ⟨h⟩
structure B1 (p : Prop) : Prop where
  out : p
theorem B1.go {p : Prop} (h : p := by first | (simp only [*, go_sem]; done) | rfl) : B1 p := ⟨h⟩
structure BM (p : Prop) : Prop where
  out : p
theorem BM.go {p : Prop} (h : p := by simp only [go_sem]) : BM p := ⟨h⟩

/-! One operation after the other. -/
section
variable {P : Program} {nt : Nat} {fx : List Nat} {X Y : St} {ops : Array Oper} {i d : Nat} {o : Oper} {r : List Oper} {Q : St → Prop} {b : Bool} {g : T}
theorem nin {fx : List Nat} {d nt : Nat} (h : (fx.contains d || !Nat.blt d nt) = false) : d ∉ fx ∧ d < nt := by
  rw [Bool.or_eq_false_iff] at h
  refine ⟨fun hm => ?_, Nat.le_of_ble_eq_true ?_⟩
  · have := h.1
    rw [List.contains_iff_mem.2 hm] at this
    cases this
  · cases hb : Nat.blt d nt with
    | true => exact hb
    | false => have := h.2; rw [hb] at this; cases this
/-- Operations i on, then Q. -/
def evK (P : Program) (nt : Nat) (fx : List Nat) (ops : Array Oper) (i : Nat) (l : List Oper) (X : St) (Q : St → Prop) : Prop := ∃ Y, evR P nt fx ops i l X = some Y ∧ Q Y
def evQ (P : Program) (nt : Nat) (fx : List Nat) (ops : Array Oper) (i : Nat) (o : Oper) (r : List Oper) (b : Bool) (X : St) (Q : St → Prop) : Prop := want X ops o = some b → evK P nt fx ops i (o :: r) X Q
theorem evK.nil (h : Q X) : evK P nt fx ops i [] X Q := ⟨X, rfl, h⟩
theorem evQ.tt (ha : BS (act1 P nt fx X o (100 + 8 * i) = some Y)) (h : evK P nt fx ops (i + 1) r Y Q) : evQ P nt fx ops i o r true X Q := by
  intro hw
  obtain ⟨Z, h1, h2⟩ := h
  refine ⟨Z, ?_, h2⟩
  unfold evR
  rw [hw]
  simp only [ha.out]
  exact h1
theorem evQ.ff (hd : BR (o.dst = some d)) (hf : BR ((fx.contains d || !Nat.blt d nt) = false)) (e : BE (({ X with env := ins X.env d uT } : St) = Y)) (h : evK P nt fx ops (i + 1) r Y Q) : evQ P nt fx ops i o r false X Q := by
  intro hw
  obtain ⟨Z, h1, h2⟩ := h
  refine ⟨Z, ?_, h2⟩
  unfold evR
  rw [hw]
  simp only [hd.out]
  rw [if_pos (nin hf.out), e.out]
  exact h1
theorem evK.q (hw : BW (want X ops o = some b)) (h : evQ P nt fx ops i o r b X Q) : evK P nt fx ops i (o :: r) X Q := h hw.out
theorem evK.u {dd : Option Tmp} {op : Op} {ty : TypeId} {ps : String} {af : Array Edge} (ha : BS (act1 P nt fx X { dst := dd, op := op, type := ty, pos := ps, after := af, guard := none } (100 + 8 * i) = some Y)) (h : evK P nt fx ops (i + 1) r Y Q) : evK P nt fx ops i ({ dst := dd, op := op, type := ty, pos := ps, after := af, guard := none } :: r) X Q := evK.q (b := true) ⟨rfl⟩ (evQ.tt ha h)
def evM (P : Program) (nt : Nat) (fx : List Nat) (ops : Array Oper) (l : List Oper) (X : St) (Q : St → Prop) : Prop := ∃ Y, evE P nt fx ops l X = some Y ∧ Q Y
def evF (P : Program) (nt : Nat) (fx : List Nat) (ops : Array Oper) (o : Oper) (r : List Oper) (b : Bool) (X : St) (Q : St → Prop) : Prop := want X ops o = some b → evM P nt fx ops (o :: r) X Q
theorem evM.nil (h : Q X) : evM P nt fx ops [] X Q := ⟨X, rfl, h⟩
theorem evF.tt (ht : BS (evV P X o = some g)) (hd : BR (o.dst = some d)) (hf : BR ((fx.contains d || !Nat.blt d nt) = false)) (e : BE (({ X with env := ins X.env d g } : St) = Y)) (h : evM P nt fx ops r Y Q) : evF P nt fx ops o r true X Q := by
  intro hw
  obtain ⟨Z, h1, h2⟩ := h
  refine ⟨Z, ?_, h2⟩
  unfold evE
  simp only [hd.out]
  rw [if_pos (nin hf.out), hw]
  simp only [ht.out]
  rw [e.out]
  exact h1
theorem evF.ff (hd : BR (o.dst = some d)) (hf : BR ((fx.contains d || !Nat.blt d nt) = false)) (e : BE (({ X with env := ins X.env d uT } : St) = Y)) (h : evM P nt fx ops r Y Q) : evF P nt fx ops o r false X Q := by
  intro hw
  obtain ⟨Z, h1, h2⟩ := h
  refine ⟨Z, ?_, h2⟩
  unfold evE
  simp only [hd.out]
  rw [if_pos (nin hf.out), hw]
  simp only
  rw [e.out]
  exact h1
theorem evM.q (hw : BW (want X ops o = some b)) (h : evF P nt fx ops o r b X Q) : evM P nt fx ops (o :: r) X Q := h hw.out
def evW (P : Program) (nt : Nat) (fx : List Nat) (ops : Array Oper) (l : List Nat) (X : St) (Q : St → Prop) : Prop := ∃ Y, evD P nt fx ops l X = some Y ∧ Q Y
def evH (P : Program) (nt : Nat) (fx : List Nat) (ops : Array Oper) (i : Nat) (o : Oper) (l : List Nat) (b : Bool) (X : St) (Q : St → Prop) : Prop := ops[i]? = some o → want X ops o = some b → evW P nt fx ops (i :: l) X Q
theorem evW.nil (h : Q X) : evW P nt fx ops [] X Q := ⟨X, rfl, h⟩
theorem evW.q {l : List Nat} (ho : BG (ops[i]? = some o)) (hw : BW (want X ops o = some b)) (h : evH P nt fx ops i o l b X Q) : evW P nt fx ops (i :: l) X Q := h ho.out hw.out
theorem evH.tt {l : List Nat} (ht : BS (evV P X o = some g)) (hd : BR (o.dst = some d)) (hf : BR ((fx.contains d || !Nat.blt d nt) = false)) (e : BE (({ X with env := ins X.env d g } : St) = Y)) (h : evW P nt fx ops l Y Q) : evH P nt fx ops i o l true X Q := by
  intro ho hw
  obtain ⟨Z, h1, h2⟩ := h
  refine ⟨Z, ?_, h2⟩
  unfold evD
  simp only [ho, hd.out]
  rw [if_pos (nin hf.out), hw]
  simp only [ht.out]
  rw [e.out]
  exact h1
theorem evH.ff {l : List Nat} (hd : BR (o.dst = some d)) (hf : BR ((fx.contains d || !Nat.blt d nt) = false)) (e : BE (({ X with env := ins X.env d uT } : St) = Y)) (h : evW P nt fx ops l Y Q) : evH P nt fx ops i o l false X Q := by
  intro ho hw
  obtain ⟨Z, h1, h2⟩ := h
  refine ⟨Z, ?_, h2⟩
  unfold evD
  simp only [ho, hd.out]
  rw [if_pos (nin hf.out), hw]
  simp only
  rw [e.out]
  exact h1
end
structure BV (p : Prop) : Prop where
  out : p
theorem BV.go {p : Prop} (h : p := by
    repeat (first | (apply evK.u; exact BS.go) | (apply evK.q; exact BW.go) | (apply evQ.tt; exact BS.go) | (apply evQ.ff; exact BR.go; exact BR.go; exact BE.go))
    apply evK.nil
    apply BT.out
    exact BT.go) : BV p := ⟨h⟩
structure BU (p : Prop) : Prop where
  out : p
theorem BU.go {p : Prop} (h : p := by
    repeat (first | (apply evK.u; exact BS.go) | (apply evK.q; exact BW.go) | (apply evQ.tt; exact BS.go) | (apply evQ.ff; exact BR.go; exact BR.go; exact BE.go))
    exact evK.nil rfl) : BU p := ⟨h⟩
structure BX (p : Prop) : Prop where
  out : p
theorem BX.go {p : Prop} (h : p := by
    repeat (first | (apply evM.q; exact BW.go) | (apply evF.tt; exact BS.go; exact BR.go; exact BR.go; exact BE.go) | (apply evF.ff; exact BR.go; exact BR.go; exact BE.go))
    apply evM.nil
    apply BT.out
    exact BT.go) : BX p := ⟨h⟩
structure BN (p : Prop) : Prop where
  out : p
theorem BN.go {p : Prop} (h : p := by
    repeat (first | (apply evW.q; exact BG.go; exact BW.go) | (apply evH.tt; exact BS.go; exact BR.go; exact BR.go; exact BE.go) | (apply evH.ff; exact BR.go; exact BR.go; exact BE.go))
    exact evW.nil rfl) : BN p := ⟨h⟩

/-- A fact that is kept out of the way. -/
structure Hold (p : Prop) : Type where
  out : p
section
variable {an : An} {C : Cx} {P : Program} {nt : Nat} {fx : List Nat} {X X' : St} {ops : Array Oper} {K : List Item}
theorem Ok.rN (vs : List Nat) (hP : C.P = P) (hn : C.nt = nt) (hx : C.fx = fx) {id : Nat} (hc : BR (noCall ops.toList = true)) (e : BV (evK P nt fx ops 0 ops.toList X (fun Y => Abs.tidy vs Y = X'))) (h : Ok C K X') : Ok C (.code (.region id ops false) :: K) X := by
  obtain ⟨Y, e, et⟩ := e.out
  exact Ok.rgN ⟨fun _ => [], fun _ => []⟩ hP hn hx hc.out e (Ok.tidy' vs et h)
theorem Ok.rD (vs : List Nat) (hP : C.P = P) (hn : C.nt = nt) (hx : C.fx = fx) (hm : P.follows .mixedOrders = true) {id : Nat} (hd : BK (drawD ops (noneL (List.range ops.size)) = true)) (e : BX (evM P nt fx ops ops.toList X (fun Y => Abs.tidy vs Y = X'))) (h : Ok C K X') : Ok C (.code (.region id ops true) :: K) X := by
  obtain ⟨Y, e, et⟩ := e.out
  exact Ok.rgE ⟨fun _ => [], fun _ => []⟩ hP hn hx hm hd.out e (Ok.tidy' vs et h)
theorem Ok.ex {id : Nat} {K' : List Item} (hk : BR (exitTo id K = some K')) (h : Ok C K' X) : Ok C (.code (.exit id) :: K) X := Ok.exit h hk.out
theorem Ok.cn {c : Operand} {x y : Code} {b : Bool} (hc : BS (scal X c = some (.bool b))) (h : Ok C (.code (bif b then x else y) :: K) X) : Ok C (.code (.cond c x y) :: K) X := Ok.cond hc.out (by cases b <;> exact h)
/-- Into a loop. -/
theorem Ok.lq {c : Code} (vs : List Nat) (J : Nat → St → Prop) (e : BT (Abs.tidy vs X = X')) (h0 : ∃ k, J k X') (hr : ∀ k X, J k X → Hold (∀ k' X', k' < k → J k' X' → Ok C (.inLoop c :: K) X') → Ok C (.code c :: .inLoop c :: K) X) : Ok C (.code (.loop c) :: K) X := by
  obtain ⟨k, h0⟩ := h0
  exact Ok.tidy' vs e.out (Ok.loop J (fun k X h ih => hr k X h ⟨ih⟩) h0)
/-- Round again. -/
theorem Ok.ag {c : Code} (vs : List Nat) {J : Nat → St → Prop} {k : Nat} (ih : Hold (∀ k' X', k' < k → J k' X' → Ok C (.inLoop c :: K) X')) (e : BT (Abs.tidy vs X = X')) (h : ∃ k', k' < k ∧ J k' X') : Ok C (.inLoop c :: K) X := by
  obtain ⟨k', h1, h2⟩ := h
  exact Ok.tidy' vs e.out (ih.out k' X' h1 h2)
/-- A meeting is reached. -/
theorem Ok.mt (vs : List Nat) {J : St → Prop} (hj : Hold (∀ X, J X → Ok C K X)) (e : BT (Abs.tidy vs X = X')) (h : J X') : Ok C K X := Ok.tidy' vs e.out (hj.out _ h)
theorem Ok.bk (rv : Array ResultVar) {args outs outs' : List Arg} {F : List Nat} {res res' : List (Bool × List Cell)} {p : St × List (Bool × List Cell × Option Nat)} {ids : List Nat} (hC : Good C args F res outs) (hP : C.P = P) (hx : C.fx = fixed 0 args) {fn : Func} (hf : P.funcs[C.fid]? = some fn) (hrv : BR (fn.results = rv))
    (hfin : BF (Abs.fin P X 1000 rv.toList = some p)) (hres : BF (finRes p.2 = res')) (hlv : BF (Abs.leaveA p.1 0 args = some (outs', ids))) (hmut : BM (finMut p.2 = true)) (hk : BR (keysLt 1000 X.sg = true)) (hids : BR (onceB ids = true)) (hidl : BR (allLt 1000 ids = true)) (e1 : B1 (res' = res)) (e2 : BR (outs' = outs)) : Ok C (.code .ret :: K) X :=
  Ok.back hC hP hf hx hk.out (hrv.out ▸ hfin.out) hres.out hmut.out hlv.out hids.out hidl.out e1.out e2.out
end
attribute [go_sem] uT evR evE evD want act1 evV Abs.look ins del lk isNil scal evBin evUn evLoad evField evIndex evLen slc cont row tidy keep idsE gcS renE addId addIds renT renU refs refU pos keysLt fin finRes finMut leaveA onceB allLt cpyL cpy noMutL noMut mutFree
  List.length_cons List.length_nil List.take_zero List.take_succ_cons List.drop_zero List.drop_succ_cons List.getElem?_cons_zero List.getElem?_cons_succ List.getElem?_toArray List.size_toArray List.not_mem_nil not_false_eq_true and_self if_true if_false Option.map_some Option.map_none Option.bind_some decide_true decide_false beq_self_eq_true Bool.not_true Bool.not_false ne_eq Bool.and_true Bool.true_and true_and and_true List.contains_cons List.contains_nil Bool.or_false Bool.or_true Bool.true_or Bool.false_or Nat.zero_add Nat.add_zero bytes_eq wrap_i64 List.nil_append List.cons_append Bool.false_eq_true eS_nm eI_nm List.range_succ List.range_zero Bool.and_self not_true_eq_false eS eI
end Go.Proofs.Ytmbkcbgbienjoaa.Abs
/- An abstract machine for the walks, part 34: the ways that a plain function goes. No condition. -/
set_option linter.unusedVariables false
namespace Go.Proofs.Ytmbkcbgbienjoaa.Abs
open Go

section
variable {α β : Type} {x y : Option α} {r : α}
theorem sBind {m : Option β} {f : β → Option α} (h : m.bind f = some r) : ∃ t, m = some t ∧ f t = some r := by
  cases m with
  | none => cases h
  | some t => exact ⟨t, rfl, h⟩
theorem sBindA {m : Option β} {f : β → Option α} {t : β} (h : m.bind f = some r) (hm : m = some t) : f t = some r := by
  subst hm
  exact h
theorem sBool {t : Bool} (h : (if t = true then x else y) = some r) : (t = true ∧ x = some r) ∨ (t = false ∧ y = some r) := by
  cases t
  · exact .inr ⟨rfl, by simpa using h⟩
  · exact .inl ⟨rfl, by simpa using h⟩
theorem sEq {a b : Int} (h : (if a = b then x else y) = some r) : ((a = b) = True ∧ (a ≤ b ∧ b ≤ a) ∧ x = some r) ∨ (¬ a = b ∧ True ∧ y = some r) := by
  by_cases c : a = b
  · rw [if_pos c] at h
    exact .inl ⟨eq_true c, ⟨by omega, by omega⟩, h⟩
  · rw [if_neg c] at h
    exact .inr ⟨c, trivial, h⟩
theorem sEqL {γ : Type} {a b : γ} {d : Decidable (a = b)} (h : (if a = b then x else y) = some r) : ((a = b) = True ∧ x = some r) ∨ (¬ a = b ∧ y = some r) := by
  by_cases c : a = b
  · rw [if_pos c] at h
    exact .inl ⟨eq_true c, h⟩
  · rw [if_neg c] at h
    exact .inr ⟨c, h⟩
theorem sIte {p : Prop} {d : Decidable p} (h : (if p then x else y) = some r) : (p ∧ x = some r) ∨ (¬ p ∧ y = some r) := by
  by_cases c : p
  · rw [if_pos c] at h
    exact .inl ⟨c, h⟩
  · rw [if_neg c] at h
    exact .inr ⟨c, h⟩
theorem sAnd {a b : Bool} {r : Bool} (h : some (a && b) = some r) : (a = false ∧ some false = some r) ∨ (a = true ∧ some b = some r) := by
  cases a
  · exact .inl ⟨rfl, h⟩
  · exact .inr ⟨rfl, h⟩
theorem sOr {a b : Bool} {r : Bool} (h : some (a || b) = some r) : (a = true ∧ some true = some r) ∨ (a = false ∧ some b = some r) := by
  cases a
  · exact .inr ⟨rfl, h⟩
  · exact .inl ⟨rfl, h⟩
end
theorem beq_dec {α : Type} [BEq α] [LawfulBEq α] [DecidableEq α] (x y : α) : (x == y) = decide (x = y) := by
  by_cases h : x = y <;> simp [h]
theorem bne_dec {α : Type} [BEq α] [LawfulBEq α] [DecidableEq α] (x y : α) : (x != y) = !decide (x = y) := by
  by_cases h : x = y <;> simp [h, bne]
section
variable {α : Type} {p q : Prop} [Decidable p] [Decidable q] {x y : α}
theorem ite_or' : (if p ∨ q then x else y) = if p then x else if q then x else y := by by_cases h : p <;> by_cases k : q <;> simp [h, k]
theorem ite_and' : (if p ∧ q then x else y) = if p then (if q then x else y) else y := by by_cases h : p <;> by_cases k : q <;> simp [h, k]
theorem ite_not' : (if ¬ p then x else y) = if p then y else x := by by_cases h : p <;> simp [h]
end
attribute [go_sem] ge_iff_le gt_iff_lt
end Go.Proofs.Ytmbkcbgbienjoaa.Abs
/- An abstract machine for the walks, part 35: the rules for regions with calls. No condition. -/
set_option linter.unusedVariables false
namespace Go.Proofs.Ytmbkcbgbienjoaa.Abs
open Go

def an0 : An := ⟨fun _ => [], fun _ => []⟩
def callAt (ops : Array Oper) (i : Nat) : Bool := match ops[i]? with
  | some o => isCall o.op
  | none => false
/-- The next call's number, from i on. -/
def nextCall (ops : Array Oper) (i : Nat) : Nat := i + ((ops.toList.drop i).takeWhile fun o => !isCall o.op).length
/-- What is handed over is known: the call, and on. -/
def goK (an : An) (C : Cx) (ops : Array Oper) (K : List Item) (i : Nat) (d : Option Tmp) (fid : FuncId) (args : List Arg) (l m : List Nat) (X : St) : Prop := ∃ (res : List (Bool × List Cell)) (outs : List Arg) (X' : St), ACalls C.P fid args res outs ∧ after C.nt C.fx X args outs l m res (100 + 8 * i) d = some X' ∧ goE an C ops K (i + 1) X'
def goKD (an : An) (C : Cx) (ops : Array Oper) (K : List Item) (q : List Nat) (r : List (Nat × Option (List Nat))) (i : Nat) (d : Option Tmp) (fid : FuncId) (args : List Arg) (l m : List Nat) (X : St) : Prop := ∃ (res : List (Bool × List Cell)) (outs : List Arg) (X' : St), ACalls C.P fid args res outs ∧ after C.nt C.fx X args outs l m res (100 + 8 * i) d = some X' ∧ (∀ j ∈ q, StabD C ops X' j) ∧ goD an C ops K r X'
/-- The operations that a drawn region may do later would then do the same. -/
def stabE (P : Program) (nt : Nat) (fx : List Nat) (ops : Array Oper) (Y : St) : List Nat → Prop
  | [] => True
  | j :: r => (match ops[j]? with
    | none => False
    | some o => match o.dst with
      | none => False
      | some d => (d ∉ fx ∧ d < nt) ∧ match want Y ops o with
        | some true => evV P Y o = lk Y.env d ∧ (lk Y.env d).isSome = true
        | some false => lk Y.env d = some uT
        | none => False) ∧ stabE P nt fx ops Y r
theorem stabE_ok {C : Cx} {P : Program} {nt : Nat} {fx : List Nat} {ops : Array Oper} {Y : St} (hP : C.P = P) (hn : C.nt = nt) (hx : C.fx = fx) : ∀ {q : List Nat}, stabE P nt fx ops Y q → ∀ j ∈ q, StabD C ops Y j
  | [], _, j, hj => nomatch hj
  | i :: q, h, j, hj => by
    rcases List.mem_cons.1 hj with rfl | hj
    · obtain ⟨h, _⟩ := h
      unfold StabD
      split at h
      · exact h.elim
      · rename_i o ho
        rw [ho]
        split at h
        · exact h.elim
        · rename_i d hd
          obtain ⟨h1, h2⟩ := h
          simp only [hd]
          refine ⟨hx ▸ h1.1, hn ▸ h1.2, ?_⟩
          split at h2
          · rename_i hw
            rw [hw]
            obtain ⟨h3, h4⟩ := h2
            obtain ⟨x, hx'⟩ := Option.isSome_iff_exists.1 h4
            exact ⟨x, by rw [hP, h3, hx'], hx'⟩
          · rename_i hw
            rw [hw]
            exact h2
          · exact h2.elim
    · exact stabE_ok hP hn hx h.2 j hj
/-- As goE, at a call that is made if b. -/
def goQ (an : An) (C : Cx) (ops : Array Oper) (K : List Item) (i : Nat) (o : Oper) (b : Bool) (X : St) : Prop := ops[i]? = some o → want X ops o = some b → goE an C ops K i X
def goQD (an : An) (C : Cx) (ops : Array Oper) (K : List Item) (q : List Nat) (r : List (Nat × Option (List Nat))) (i : Nat) (o : Oper) (b : Bool) (X : St) : Prop := ops[i]? = some o → want X ops o = some b → goD an C ops K ((i, some q) :: r) X
section
variable {an : An} {C : Cx} {P : Program} {nt : Nat} {fx : List Nat} {X X' : St} {ops : Array Oper} {K : List Item}
theorem takeWhile_eq {α : Type} (p : α → Bool) : ∀ (l : List α), l.take (l.takeWhile p).length = l.takeWhile p
  | [] => rfl
  | x :: l => by
    rw [List.takeWhile_cons]
    split
    · rw [List.length_cons, List.take_succ_cons, takeWhile_eq p l]
    · rfl
theorem takeWhile_len {α : Type} (p : α → Bool) : ∀ (l : List α), (l.takeWhile p).length ≤ l.length
  | [] => Nat.le_refl _
  | x :: l => by
    rw [List.takeWhile_cons]
    split
    · rw [List.length_cons, List.length_cons]; exact Nat.succ_le_succ (takeWhile_len p l)
    · exact Nat.zero_le _
theorem takeWhile_all {α : Type} (p : α → Bool) : ∀ (l : List α), (l.takeWhile p).all p = true
  | [] => rfl
  | x :: l => by
    rw [List.takeWhile_cons]
    split
    · rename_i h; rw [List.all_cons, h, takeWhile_all p l]; rfl
    · rfl
theorem Ok.gS {id : Nat} (h : goE an0 C ops K 0 X) : Ok C (.code (.region id ops false) :: K) X := Ok.gE an0 h
theorem goE.e (vs : List Nat) (hP : C.P = P) (hn : C.nt = nt) (hx : C.fx = fx) {i : Nat} (hc : BR ((noCall (ops.toList.drop i) && Nat.ble i ops.size) = true)) (e : BV (evK P nt fx ops i (ops.toList.drop i) X (fun Y => Abs.tidy vs Y = X'))) (h : Ok C K X') : goE an C ops K i X := by
  obtain ⟨Y, e, et⟩ := e.out
  have hc := hc.out
  rw [Bool.and_eq_true] at hc
  obtain ⟨hc, hi⟩ := hc
  have hi := Nat.le_of_ble_eq_true hi
  have ht : (ops.toList.drop i).take (ops.size - i) = ops.toList.drop i := by
    rw [List.take_of_length_le]
    rw [List.length_drop, Array.length_toList]
    exact Nat.le_refl _
  exact goE.v hP hn hx ops.size (by rw [ht]; exact hc) ⟨hi, Nat.le_refl _⟩ (by rw [ht]; exact e) (goE.end (Ok.tidy' vs et h))
theorem goD.z (vs : List Nat) (e : BT (Abs.tidy vs X = X')) (h : Ok C K X') : Abs.goD an C ops K [] X := goD.end (Ok.tidy' vs e.out h)
theorem goE.n (hP : C.P = P) (hn : C.nt = nt) (hx : C.fx = fx) {i j : Nat} (hlt : BR ((Nat.blt i (nextCall ops i) && Nat.ble i ops.size) = true)) (hj : BJ (nextCall ops i = j)) (e : BU (evK P nt fx ops i ((ops.toList.drop i).take (j - i)) X (fun Y => Y = X'))) (h : goE an C ops K j X') : goE an C ops K i X := by
  replace e := e.out
  obtain ⟨_, e, rfl⟩ := e
  have hlt := hlt.out
  rw [Bool.and_eq_true] at hlt
  obtain ⟨hlt, hi⟩ := hlt
  have hi := Nat.le_of_ble_eq_true hi
  have hj := hj.out
  subst hj
  have hk : nextCall ops i - i = ((ops.toList.drop i).takeWhile fun o => !isCall o.op).length := by unfold nextCall; omega
  refine goE.v hP hn hx _ ?_ ⟨by unfold nextCall; omega, ?_⟩ e h
  · rw [hk, takeWhile_eq]
    exact takeWhile_all _ _
  · have := takeWhile_len (fun o => !isCall o.op) (ops.toList.drop i)
    rw [List.length_drop, Array.length_toList (xs := ops)] at this
    show i + ((ops.toList.drop i).takeWhile fun o => !isCall o.op).length ≤ ops.size
    generalize ((ops.toList.drop i).takeWhile fun o => !isCall o.op).length = n at this ⊢
    omega
theorem goE.q {i : Nat} {o : Oper} {b : Bool} (hg : BR (callAt ops i = true)) (ho : BG (ops[i]? = some o)) (hw : BW (want X ops o = some b)) (h : goQ an C ops K i o b X) : goE an C ops K i X := h ho.out hw.out
theorem goQ.t (hP : C.P = P) {i : Nat} {o : Oper} {f : Operand} {xs : Array Operand} {ts : Array TypeId} {d : Option Tmp} {fid : FuncId} {args : List Arg} {l m : List Nat} (hop : BR (o.op = .call { callee := .value f, args := xs, argTypes := ts })) (hd : BR (o.dst = d)) (hp : BS (prep an X f xs.toList = some (fid, args, l, m))) (h : goK an C ops K i d fid args l m X) : goQ an C ops K i o true X := by
  intro ho hw
  obtain ⟨res, outs, X', h1, h2, h3⟩ := h
  exact goE.c rfl rfl rfl ho hop.out hw hp.out h1 (hd.out ▸ h2) h3
theorem goQ.f (hn : C.nt = nt) (hx : C.fx = fx) {i : Nat} {o : Oper} {d : Nat} (hd : BR (o.dst = some d)) (hf : BR ((fx.contains d || !Nat.blt d nt) = false)) (e : BE (({ X with env := ins X.env d uT } : St) = X')) (h : goE an C ops K (i + 1) X') : goQ an C ops K i o false X := by
  intro ho hw n hsz
  have hlt : i < ops.size := by
    rcases Nat.lt_or_ge i ops.size with h1 | h1
    · exact h1
    · rw [Array.getElem?_eq_none h1] at ho; cases ho
  obtain ⟨m, rfl⟩ : ∃ m, n = m + 1 := ⟨n - 1, by omega⟩
  rw [List.range'_succ]
  unfold goR
  rw [ho]
  simp only [hw, hd.out]
  refine ⟨⟨hx ▸ (nin hf.out).1, hn ▸ (nin hf.out).2⟩, ?_⟩
  rw [e.out]
  exact h m (by omega)
theorem goK.k (hP : C.P = P) (hn : C.nt = nt) (hx : C.fx = fx) {i : Nat} {d : Option Tmp} {fid : FuncId} {args outs : List Arg} {l m : List Nat} {res : List (Bool × List Cell)} (hc : ACalls P fid args res outs) (ha : BS (after nt fx X args outs l m res (100 + 8 * i) d = some X')) (h : goE an C ops K (i + 1) X') : goK an C ops K i d fid args l m X :=
  ⟨res, outs, X', hP ▸ hc, by rw [hn, hx]; exact ha.out, h⟩
theorem Ok.gD (id : Nat) (r : List (Nat × Option (List Nat))) (hP : C.P = P) (hm : P.follows .mixedOrders = true) (hd : BK (drawD ops r = true)) (h : Abs.goD an0 C ops K r X) : Ok C (.code (.region id ops true) :: K) X := Ok.goD r (hP ▸ hm) hd.out h
theorem goD.n (hP : C.P = P) (hn : C.nt = nt) (hx : C.fx = fx) {l : List Nat} {r : List (Nat × Option (List Nat))} (e : BN (evW P nt fx ops l X (fun Y => Y = X'))) (h : goD an C ops K r X') : goD an C ops K (noneL l ++ r) X := by
  replace e := e.out
  obtain ⟨_, e, rfl⟩ := e
  exact goD.vs hP hn hx l e h
structure BQ (p : Prop) : Prop where
  out : p
theorem BQ.go {p : Prop} (h : p := by simp (disch := omega) only [*, go_sem, eq_self, if_pos, Nat.reduceAdd, Nat.reduceMul, Nat.reduceSub, Nat.reduceDiv, Nat.reduceLT, Nat.reduceEqDiff, Nat.reduceLeDiff, Int.reduceLE, Int.reduceLT, Int.reduceEq, Int.reduceToNat, ↓reduceIte, reduceCtorEq, Nat.reduceBEq, Nat.reduceBneDiff, stabE]) : BQ p := ⟨h⟩
theorem goD.q {i : Nat} {q : List Nat} {r : List (Nat × Option (List Nat))} {o : Oper} {b : Bool} (hg : BR (callAt ops i = true)) (ho : BG (ops[i]? = some o)) (hw : BW (want X ops o = some b)) (h : goQD an C ops K q r i o b X) : goD an C ops K ((i, some q) :: r) X := h ho.out hw.out
theorem goQD.t (hP : C.P = P) {i : Nat} {q : List Nat} {r : List (Nat × Option (List Nat))} {o : Oper} {f : Operand} {xs : Array Operand} {ts : Array TypeId} {d : Option Tmp} {fid : FuncId} {args : List Arg} {l m : List Nat} (hop : BR (o.op = .call { callee := .value f, args := xs, argTypes := ts })) (hd : BR (o.dst = d)) (hp : BS (prep an X f xs.toList = some (fid, args, l, m))) (h : goKD an C ops K q r i d fid args l m X) : goQD an C ops K q r i o true X := by
  intro ho hw
  obtain ⟨res, outs, X', h1, h2, h3, h4⟩ := h
  exact goD.c rfl rfl rfl ho hop.out hw hp.out h1 (hd.out ▸ h2) h3 h4
theorem goQD.f (hP : C.P = P) (hn : C.nt = nt) (hx : C.fx = fx) {i : Nat} {q : List Nat} {r : List (Nat × Option (List Nat))} {o : Oper} {d : Nat} (hd : BR (o.dst = some d)) (hf : BR ((fx.contains d || !Nat.blt d nt) = false)) (e : BE (({ X with env := ins X.env d uT } : St) = X')) (hq : BQ (stabE P nt fx ops X' q)) (h : goD an C ops K r X') : goQD an C ops K q r i o false X := by
  intro ho hw
  unfold goD
  rw [ho]
  simp only [hw, hd.out]
  exact ⟨hx ▸ (nin hf.out).1, hn ▸ (nin hf.out).2, by rw [e.out]; exact stabE_ok hP hn hx hq.out, by rw [e.out]; exact h⟩
theorem goKD.k (hP : C.P = P) (hn : C.nt = nt) (hx : C.fx = fx) {i : Nat} {q : List Nat} {r : List (Nat × Option (List Nat))} {d : Option Tmp} {fid : FuncId} {args outs : List Arg} {l m : List Nat} {res : List (Bool × List Cell)} (hc : ACalls P fid args res outs) (ha : BS (after nt fx X args outs l m res (100 + 8 * i) d = some X')) (hq : BQ (stabE P nt fx ops X' q)) (h : goD an C ops K r X') : goKD an C ops K q r i d fid args l m X :=
  ⟨res, outs, X', hP ▸ hc, by rw [hn, hx]; exact ha.out, stabE_ok hP hn hx hq.out, h⟩
theorem goD.x (hP : C.P = P) (hn : C.nt = nt) (hx : C.fx = fx) {i : Nat} {q : List Nat} {r : List (Nat × Option (List Nat))} {o : Oper} (hg : BR (callAt ops i = false)) (ho : BG (ops[i]? = some o)) (hic : BR (isCall o.op = false)) (hw : BW (want X ops o = some true)) (e : BS (act1 P nt fx X o (100 + 8 * i) = some X')) (hq : BQ (stabE P nt fx ops X' q)) (h : goD an C ops K r X') : goD an C ops K ((i, some q) :: r) X := goD.w hP hn hx ho.out hic.out hw.out e.out (stabE_ok hP hn hx hq.out) h
end
attribute [go_sem] List.set_cons_zero List.set_cons_succ true_or or_true false_or or_false and_false false_and or_self implies_true Option.isSome_some Option.isSome_none Option.isNone_some Option.isNone_none List.isEmpty_nil List.isEmpty_cons Nat.le_refl List.zip_cons_cons List.zip_nil_left List.zip_nil_right List.map_cons List.map_nil List.flatten_cons List.flatten_nil List.append_nil List.mem_cons List.flatMap_nil List.flatMap_cons List.flatMap_append Bool.and_false Bool.false_and Nat.zero_mul Nat.mul_one Nat.one_mul Option.some.injEq List.append_assoc List.toList_toArray
attribute [go_sem] evAppend evN evS gath kill store over setRow insAll killAll resT after oneT onceB notIn shA shC rwA rwC pureR pureLL freshB prep prep1 prepAs prepC an0 cpyL noMutL shrL shr pureL pure1 okT okU St.set Ob.cells Ob.with holeAt blksA
end Go.Proofs.Ytmbkcbgbienjoaa.Abs
/- An abstract machine for the walks, part 36: calls that a guard may leave out; places where ways meet. No condition. -/
set_option linter.unusedVariables false
namespace Go.Proofs.Ytmbkcbgbienjoaa.Abs
open Go

section
variable {an : An} {C : Cx} {P : Program} {nt : Nat} {fx : List Nat} {X X' : St} {ops : Array Oper} {K : List Item}
/-- Ways part here and meet behind it. -/
theorem Ok.cutB (N : Nat) (J : St → Prop) {c : Code} (hb : Hold (∀ X, J X → Ok C K X) → Ok C (.code (.block N c) :: K) X) (hj : ∀ X, J X → Ok C K X) : Ok C (.code (.block N c) :: K) X := hb ⟨hj⟩
theorem Ok.cutI (N : Nat) (J : St → Prop) {x y : Code} (hb : Hold (∀ X, J X → Ok C K X) → Ok C (.code (.cond (.tmp N) x y) :: K) X) (hj : ∀ X, J X → Ok C K X) : Ok C (.code (.cond (.tmp N) x y) :: K) X := hb ⟨hj⟩
theorem Ok.cutR (N : Nat) (J : St → Prop) {b : Bool} (hb : Hold (∀ X, J X → Ok C K X) → Ok C (.code (.region N ops b) :: K) X) (hj : ∀ X, J X → Ok C K X) : Ok C (.code (.region N ops b) :: K) X := hb ⟨hj⟩
/-- A test, apart from what follows. -/
theorem sIteU {α : Type} {p : Prop} {d : Decidable p} {x y : Option α} {r : α} (h : (if p then x else y) = some r) : ((if p then some () else none) = some () ∧ x = some r) ∨ ((if p then none else some ()) = some () ∧ y = some r) := by
  by_cases c : p
  · rw [if_pos c] at h
    exact .inl ⟨if_pos c, h⟩
  · rw [if_neg c] at h
    exact .inr ⟨if_neg c, h⟩
end
section
variable {α : Type} {e : α → List Cell} {s : Nat}
theorem slD_map (hs : ∀ x, (e x).length = s) (l : List α) (n : Nat) : List.take ((l.length - n) * s) (List.drop (n * s) (l.flatMap e)) = (l.drop n).flatMap e := by
  rw [drop_map hs, List.take_of_length_le]
  rw [len_map hs, List.length_drop]
  exact Nat.le_refl _
theorem slB_map (hs : ∀ x, (e x).length = s) (l : List α) (h n : Nat) : List.take ((h - n) * s) (List.drop (n * s) (l.flatMap e)) = ((l.drop n).take (h - n)).flatMap e := by
  rw [drop_map hs, take_map hs]
end
attribute [go_sem] evSlice bnd evConv Nat.sub_zero capIds renC capOb prepC leaveC entC evEq evBB Bool.not_eq_true'
theorem sBindS {α β : Type} {v : β} {f : β → Option α} {r : α} (h : (some v).bind f = some r) : f v = some r := h
theorem empty_toList : ByteArray.empty.toList = [] := by simp [Go.ByteArray.toList_eq]
attribute [go_sem] empty_toList
theorem len_rep (n : Nat) (c : List Cell) : (List.replicate n c).flatten.length = n * c.length := by
  induction n with
  | zero => simp
  | succ n ih => rw [List.replicate_succ, List.flatten_cons, List.length_append, ih, Nat.succ_mul, Nat.add_comm]
attribute [go_sem] len_rep List.length_replicate List.length_append
end Go.Proofs.Ytmbkcbgbienjoaa.Abs
/- An abstract machine for the walks, part 37: what an argument's data read as; a law's walk out of a function's. No condition beyond what the row gives. -/
set_option linter.unusedVariables false
set_option linter.unusedSimpArgs false
namespace Go.Proofs.Ytmbkcbgbienjoaa.Abs
open Go Go.WideShapes
open Go.RowKit (Below)
open Go.Proofs.Ytmbkcbgbienjoaa.Opn

/-- Whatever reads at type t is a value of this kind: n cells, e says what they hold; and it is good. -/
def OpnC {H : Type} (enc : TypeId × Value → H) (P : Program) (w : World) (t : TypeId) {α : Type} (n : Nat) (e : α → List Cell) (G : α → Prop) : Prop :=
  0 < n ∧ P.cellsOf t = n ∧ (∀ a, (e a).length = n) ∧ (∀ a, cpyL (e a) = true) ∧ ∀ (fuel : Nat) (cs : List Value) (x : DataW H × List MemPlace), DataW.trod enc P w 0 (fun _ => true) true fuel t cs = some x → ∃ a, RepL w (· < w.heap.size) hv0 (e a) cs [] ∧ G a
def eL {α : Type} (n : Nat) (e : α → List Cell) (l : List α) : List Cell := [.sl none n (l.flatMap e)]

theorem choose_list {α : Type} {p : Nat → α → Prop} : ∀ (n : Nat), (∀ i, i < n → ∃ x, p i x) → ∃ l : List α, l.length = n ∧ ∀ (i : Nat) (x : α), l[i]? = some x → p i x
  | 0, _ => ⟨[], rfl, fun i x h => by simp at h⟩
  | n + 1, h => by
    obtain ⟨l, hl, hp⟩ := choose_list n (fun i hi => h i (by omega))
    obtain ⟨y, hy⟩ := h n (by omega)
    refine ⟨l ++ [y], by simp [hl], fun i x hx => ?_⟩
    rcases Nat.lt_trichotomy i n with hi | hi | hi
    · rw [List.getElem?_append_left (by omega)] at hx
      exact hp i x hx
    · subst hi
      rw [List.getElem?_append_right (by omega), hl] at hx
      simp at hx
      exact hx ▸ hy
    · rw [List.getElem?_eq_none (by simp [hl]; omega)] at hx
      cases hx
theorem add_off (a : Addr) (i : Nat) (h : i ≠ 0) : a.add i = ⟨a.block, a.off + i, none⟩ := by simp [Addr.add, h]
theorem cell_spot {w : World} {a : Addr} {v : Value} (h : w.cell? a = some v) : a.spot = none := by
  unfold World.cell? at h
  split at h
  · split at h
    · cases h
    · rename_i hs
      cases hsp : a.spot with
      | none => rfl
      | some s => rw [hsp] at hs; exact absurd rfl hs
  · cases h

section
variable {H : Type} {enc : TypeId × Value → H} {P : Program} {w : World}
theorem opnC_int {t : TypeId} {k : IntKind} (ht : P.underlying t = some (.int k)) (hc : P.cellsOf t = 1) : OpnC enc P w t 1 (fun a : Int => [.sc (.int k a)]) (GI k) := by
  refine ⟨Nat.one_pos, hc, fun _ => rfl, fun _ => rfl, fun fuel cs x h => ?_⟩
  obtain ⟨n, rfl, _, hw⟩ := DataW.trod_int ht h
  exact ⟨n, Rep.one ⟨rfl, rfl, rfl⟩, hw⟩
theorem opnC_bool {t : TypeId} (ht : P.underlying t = some .bool) (hc : P.cellsOf t = 1) : OpnC enc P w t 1 (fun a : Bool => [.sc (.bool a)]) GB := by
  refine ⟨Nat.one_pos, hc, fun _ => rfl, fun _ => rfl, fun fuel cs x h => ?_⟩
  obtain ⟨b, rfl, _⟩ := DataW.trod_bool ht h
  exact ⟨b, Rep.one ⟨rfl, rfl, rfl⟩, trivial⟩
theorem opnC_str {t : TypeId} (ht : P.underlying t = some .string) (hc : P.cellsOf t = 1) : OpnC enc P w t 1 (fun a : ByteArray => [.sc (.string a)]) GS := by
  refine ⟨Nat.one_pos, hc, fun _ => rfl, fun _ => rfl, fun fuel cs x h => ?_⟩
  obtain ⟨s, rfl, _, hs⟩ := DataW.trod_string ht h
  exact ⟨s, Rep.one ⟨rfl, rfl, rfl⟩, hs⟩
theorem rowsC {α : Type} {e : α → List Cell} {n : Nat} (hn : 0 < n) (hl : ∀ a, (e a).length = n) {A : Nat → Prop} (a : Addr) : ∀ (l : List α) (s : Nat), (∀ i y, l[i]? = some y → ∃ c, w.cells? 0 (a.add ((s + i) * n)) n = some c ∧ RepL w A hv0 (e y) c []) → ∃ vs, RepL w A hv0 (l.flatMap e) vs [] ∧ ∀ i u, vs[i]? = some u → w.cell? (a.add (s * n + i)) = some u
  | [], s, _ => ⟨[], ⟨rfl, rfl⟩, fun i u h => by simp at h⟩
  | y :: l, s, h => by
    obtain ⟨c, h1, h2⟩ := h 0 y rfl
    obtain ⟨vs, h3, h4⟩ := rowsC hn hl a l (s + 1) (fun i y' hi => by
      have := h (i + 1) y' (by simpa using hi)
      rw [show s + 1 + i = s + (i + 1) by omega]
      exact this)
    obtain ⟨_, h5, h6⟩ := World.cells?_some h1
    refine ⟨c ++ vs, by rw [List.flatMap_cons]; exact RepL.append h2 h3, fun i u hi => ?_⟩
    by_cases hin : i < n
    · rw [List.getElem?_append_left (by omega)] at hi
      have := h6 i hin
      rw [Go.Deep.add_add, Nat.add_zero] at this
      rw [this, hi]
    · rw [List.getElem?_append_right (by omega), h5] at hi
      have := h4 (i - n) u hi
      rw [show (s + 1) * n + (i - n) = s * n + i by rw [Nat.succ_mul]; omega] at this
      exact this
theorem opnC_slice {α : Type} {n : Nat} {e : α → List Cell} {G : α → Prop} {t t' : TypeId} (ht : P.underlying t = some (.slice t')) (hc : P.cellsOf t = 1) (h0 : OpnC enc P w t' n e G) : OpnC enc P w t 1 (eL n e) (GL G) := by
  obtain ⟨hn, hcn, hl, hcp, h0⟩ := h0
  have cpl : ∀ l : List α, cpyL (l.flatMap e) = true := fun l => by
    induction l with
    | nil => rfl
    | cons x r ih =>
      rw [List.flatMap_cons]
      have : ∀ (a b : List Cell), cpyL a = true → cpyL b = true → cpyL (a ++ b) = true := by
        intro a
        induction a with
        | nil => intro b _ hb; exact hb
        | cons y a ih =>
          intro b ha hb
          simp only [List.cons_append, cpyL, Bool.and_eq_true] at ha ⊢
          exact ⟨ha.1, ih b ha.2 hb⟩
      exact this _ _ (hcp x) ih
  refine ⟨Nat.one_pos, hc, fun _ => rfl, fun l => by simp [eL, cpyL, cpy, cpl l], fun fuel cs x h => ?_⟩
  rcases Go.Deep.open_slice ht h with ⟨rfl, _⟩ | ⟨a, len, cp, m, k, D, Pl, rfl, _, hle, hm, hmm, _, hx⟩
  · exact ⟨[], Rep.one ⟨none, 0, 0, rfl, hn, by simp, Nat.le_refl _, (fun _ h => nomatch h), rfl, rfl⟩, by simp, by simp⟩
  · simp only [if_true] at hmm
    subst hmm
    obtain ⟨l, hll, hp⟩ := choose_list (p := fun i y => ∃ c, w.cells? 0 (a.add (i * n)) n = some c ∧ RepL w (· < w.heap.size) hv0 (e y) c [] ∧ G y) len (fun i hi => by
      obtain ⟨c, h1, h2⟩ := hx i (by omega)
      obtain ⟨y, h3, h4⟩ := h0 _ _ _ h2
      exact ⟨y, c, hcn ▸ h1, h3, h4⟩)
    have hmx : len ≤ 9223372036854775807 := by simp only [maxLen] at hm; omega
    obtain ⟨vs, hR, hcell⟩ := rowsC (A := (· < w.heap.size)) hn hl a l 0 (fun i y hi => by
      obtain ⟨c, h1, h2, _⟩ := hp i y hi
      exact ⟨c, by rw [Nat.zero_add]; exact h1, h2⟩)
    have hfst : l.flatMap e ≠ [] → ∃ u, w.cell? a = some u := fun hne => by
      have hv := RepL.length hR
      cases vs with
      | nil => exact absurd (List.eq_nil_of_length_eq_zero hv.symm) hne
      | cons u vs => exact ⟨u, by have := hcell 0 u rfl; simpa [Addr.add] using this⟩
    refine ⟨l, Rep.one ⟨some a, len, m, rfl, hn, ?_, hle, (fun _ h => nomatch h), fun hne => ?_, vs, [], hR, fun i u hi => ?_, rfl, rfl, fun hne => ?_⟩, by rw [hll]; exact hmx, fun y hy => ?_⟩
    · rw [← hll]
      clear hp hR hcell hfst hll
      induction l with
      | nil => simp
      | cons y l ih => rw [List.flatMap_cons, List.length_append, hl, List.length_cons, Nat.succ_mul, ih]; omega
    · rcases hne with hne | hne
      · exact absurd rfl hne
      · obtain ⟨u, hu⟩ := hfst hne
        exact cell_spot hu
    · have hlt := (List.getElem?_eq_some_iff.1 hi).1
      have hne : l.flatMap e ≠ [] := by intro h; rw [h] at hR; rw [hR.1] at hlt; simp at hlt
      obtain ⟨u0, hu⟩ := hfst hne
      have hsp := cell_spot hu
      have h5 := hcell i u hi
      rw [Nat.zero_mul, Nat.zero_add] at h5
      by_cases hi0 : i = 0
      · subst hi0
        obtain ⟨ab, ao, asp⟩ := a
        cases hsp
        simpa [Addr.add] using h5
      · rw [add_off _ _ hi0] at h5
        exact h5
    · obtain ⟨u, hu⟩ := hfst hne
      exact cell_some_lt hu
    · obtain ⟨j, hj, rfl⟩ := List.mem_iff_getElem.1 hy
      obtain ⟨c, _, _, h2⟩ := hp j _ (List.getElem?_eq_getElem hj)
      exact h2

/-- The fields from one on, in line. -/
def OpnG (enc : TypeId × Value → H) (P : Program) (w : World) (fs : List Field) (off : Nat) {α : Type} (n : Nat) (e : α → List Cell) (G : α → Prop) : Prop :=
  0 < n ∧ (∀ a, (e a).length = n) ∧ (∀ a, cpyL (e a) = true) ∧ ∀ (m : Nat) (cs : List Value), cs.length = off + n → (∀ f ∈ fs, ∃ x, DataW.trod enc P w 0 (fun _ => true) true m f.type ((cs.drop f.offset).take (P.cellsOf f.type)) = some x) → ∃ a, RepL w (· < w.heap.size) hv0 (e a) (cs.drop off) [] ∧ G a
theorem opnG_one {α : Type} {n : Nat} {e : α → List Cell} {G : α → Prop} {f : Field} {off : Nat} (ho : f.offset = off) (h0 : OpnC enc P w f.type n e G) : OpnG enc P w [f] off n e G := by
  obtain ⟨hn, hcn, hl, hcp, h0⟩ := h0
  refine ⟨hn, hl, hcp, fun m cs hlen hf => ?_⟩
  obtain ⟨x, hx⟩ := hf f (by simp)
  obtain ⟨a, h1, h2⟩ := h0 _ _ _ hx
  rw [ho, hcn, List.take_of_length_le (by simp; omega)] at h1
  exact ⟨a, h1, h2⟩
theorem opnG_cons {α β : Type} {n m : Nat} {e : α → List Cell} {e' : β → List Cell} {G : α → Prop} {G' : β → Prop} {f : Field} {fs : List Field} {off : Nat} (ho : f.offset = off) (h0 : OpnC enc P w f.type n e G)
    (h1 : OpnG enc P w fs (off + n) m e' G') : OpnG enc P w (f :: fs) off (n + m) (fun x : α × β => e x.1 ++ e' x.2) (fun x => G x.1 ∧ G' x.2) := by
  obtain ⟨hn, hcn, hl, hcp, h0⟩ := h0
  obtain ⟨hm, hl', hcp', h1⟩ := h1
  refine ⟨by omega, fun a => by rw [List.length_append, hl, hl'], fun a => ?_, fun k cs hlen hf => ?_⟩
  · have : ∀ (a b : List Cell), cpyL a = true → cpyL b = true → cpyL (a ++ b) = true := by
      intro a
      induction a with
      | nil => intro b _ hb; exact hb
      | cons y a ih =>
        intro b ha hb
        simp only [List.cons_append, cpyL, Bool.and_eq_true] at ha ⊢
        exact ⟨ha.1, ih b ha.2 hb⟩
    exact this _ _ (hcp _) (hcp' _)
  obtain ⟨x, hx⟩ := hf f (by simp)
  obtain ⟨a, h2, h3⟩ := h0 _ _ _ hx
  obtain ⟨b, h4, h5⟩ := h1 k cs (by omega) (fun g hg => hf g (by simp [hg]))
  rw [ho, hcn] at h2
  refine ⟨(a, b), ?_, h3, h5⟩
  rw [← List.drop_drop] at h4
  have := RepL.append h2 h4
  rwa [List.take_append_drop] at this
theorem opnC_struct {α β : Type} {n : Nat} {e : β → List Cell} {G : β → Prop} {t : TypeId} {fs : Array Field} (pr : α → β) (mk : β → α) (hpr : ∀ b, pr (mk b) = b) (ht : P.underlying t = some (.struct fs)) (hc : P.cellsOf t = n) (h0 : OpnG enc P w fs.toList 0 n e G) :
    OpnC enc P w t n (fun x => e (pr x)) (fun x => G (pr x)) := by
  obtain ⟨hn, hl, hcp, h0⟩ := h0
  refine ⟨hn, hc, fun a => hl _, fun a => hcp _, fun fuel cs x h => ?_⟩
  obtain ⟨xs, k, _, _, hl, hlen, hf⟩ := DataW.trod_struct ht h
  obtain ⟨a, h1, h2⟩ := h0 k cs (by omega) (fun f hfm => by
    obtain ⟨i, hi, rfl⟩ := List.mem_iff_getElem.1 hfm
    have hi2 : i < fs.size := by simpa using hi
    have h3 := hf i _ (Array.getElem?_eq_getElem hi2)
    have h4 : i < xs.length := by omega
    rw [List.getElem?_eq_getElem h4] at h3
    exact ⟨_, by simpa using h3⟩)
  refine ⟨mk a, ?_, ?_⟩
  · show RepL w _ hv0 (e (pr (mk a))) cs []
    rw [hpr]
    exact h1
  · show G (pr (mk a))
    rw [hpr]
    exact h2
/-- A slice that is an argument. -/
theorem topC_slice {α : Type} {n : Nat} {e : α → List Cell} {G : α → Prop} {t t' : TypeId} {r : Reach} {b0 : Nat} {v : Value} {dd : DataW H} {p : List MemPlace} (ht : P.underlying t = some (.slice t')) (h0 : OpnC enc P w t n e G)
    (hv : Value.okWide P w r b0 t v) (h : DataW.Trod enc P w 0 (fun _ => true) true t v dd p) : ∃ a, ARep w (· < w.heap.size) (.dat false (e a)) v [] ∧ G a := by
  obtain ⟨A, len, cap, rfl⟩ := okWide_slice ht hv
  obtain ⟨fuel, hf⟩ := h
  obtain ⟨_, _, _, hcp, h0⟩ := h0
  obtain ⟨a, hR, hG⟩ := h0 _ _ _ hf
  exact ⟨a, ⟨rfl, hcp a, [_], by simpa [Value.cells] using hR, rfl⟩, hG⟩
/-- A struct that is an argument. -/
theorem topC_struct {α : Type} {n : Nat} {e : α → List Cell} {G : α → Prop} {t : TypeId} {fs : Array Field} {r : Reach} {b0 : Nat} {v : Value} {dd : DataW H} {p : List MemPlace} (ht : P.underlying t = some (.struct fs)) (h0 : OpnC enc P w t n e G)
    (hv : Value.okWide P w r b0 t v) (h : DataW.Trod enc P w 0 (fun _ => true) true t v dd p) : ∃ a, ARep w (· < w.heap.size) (.dat true (e a)) v [] ∧ G a := by
  obtain ⟨cs, rfl, _⟩ := okWide_struct ht hv
  obtain ⟨fuel, hf⟩ := h
  obtain ⟨_, _, _, hcp, h0⟩ := h0
  obtain ⟨a, hR, hG⟩ := h0 _ _ _ hf
  exact ⟨a, ⟨rfl, hcp a, cs.toList, by simpa [Value.cells] using hR, by simp [mkv]⟩, hG⟩
theorem topC_sc {u : Value} (hu : flat u = true) : ARep w (· < w.heap.size) (.dat false [.sc u]) u [] := ⟨rfl, rfl, [u], Rep.one ⟨rfl, hu, rfl⟩, rfl⟩
theorem asC_nil {A : Nat → Prop} : AsRep w A [] [] [] := ⟨rfl, rfl⟩
theorem asC_cons {A : Nat → Prop} {x : Arg} {r : List Arg} {v : Value} {us : List Value} (h : ARep w A x v []) (k : AsRep w A r us []) : AsRep w A (x :: r) (v :: us) [] := ⟨v, us, [], [], rfl, rfl, h, k⟩
/-- A law's walk. -/
theorem ACalls.law {f : FuncId} {args outs : List Arg} {u : Value} {vs : List Value} (h : ACalls P f args [(false, [.sc u])] outs) (ha : AsRep w (· < w.heap.size) args vs []) : Calls P f vs.toArray w fun e w' => e = .returned u ∧ Below w.heap.size w w' := by
  refine Calls.mono (h.2 w _ vs [] ha List.nodup_nil (fun b hb => nomatch hb) (fun b hb => hb)) fun e w' he => ?_
  obtain ⟨v, rfl, us, Fr, Fo, rfl, hr, _, _, _, hx⟩ := he
  obtain ⟨v, us', F1, F2, rfl, rfl, ⟨vs', hR, hm⟩, hr2⟩ := hr
  obtain ⟨rfl, rfl⟩ := hr2
  cases hm
  obtain ⟨rfl, _, _⟩ := RepL.one hR
  exact ⟨rfl, hx.os, hx.tape, hx.output, hx.size, fun k hk => hx.block k hk (fun hm => nomatch hm)⟩
end
end Go.Proofs.Ytmbkcbgbienjoaa.Abs
