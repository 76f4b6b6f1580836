/- An abstract machine for the walks: values and objects without addresses, an evaluator of the operations, sound for the model's walk. No condition. -/
import Derived.Test.YtppfilhlblnmcaaA4
import Derived.KernelRfl
import Derived.ChangeArms
import Derived.Deep.Slices
import Derived.WideShapes
import Derived.DataReads
import Derived.Below
import Derived.Test.YtppfilhlblnmcaaOpn
/- An abstract machine for the walks, part 33: the rules with their evaluations. No condition. -/
set_option linter.unusedVariables false
namespace Go.Proofs.Ytppfilhlblnmcaa.Abs
open Go

/-! Small goals, each with the tactic that settles it: a rule is applied first, then its goals are settled. -/
structure BS (p : Prop) : Prop where
  out : p
theorem BS.go {p : Prop} (h : p := by simp (disch := omega) only [*, go_sem, eq_self, if_pos, Nat.reduceAdd, Nat.reduceMul, Nat.reduceSub, Nat.reduceDiv, Nat.reduceLT, Nat.reduceEqDiff, Nat.reduceLeDiff, Int.reduceLE, Int.reduceLT, Int.reduceEq, Int.reduceToNat, ↓reduceIte, reduceCtorEq, Nat.reduceBEq, Nat.reduceBeqDiff, Nat.reduceBneDiff, List.reduceReplicate]; rfl) : BS p := ⟨h⟩
structure BT (p : Prop) : Prop where
  out : p
theorem BT.go {p : Prop} (h : p := by simp only [go_sem, Nat.reduceAdd, Nat.reduceLT, Nat.reduceEqDiff, ↓reduceIte, reduceCtorEq, Nat.reduceBEq, beq_self_eq_true, Bool.false_eq_true]; rfl) : BT p := ⟨h⟩
structure BTs (p : Prop) : Prop where
  out : p
theorem BTs.go {p : Prop} (h : p := by simp only [go_sem, Nat.reduceAdd, Nat.reduceLT, Nat.reduceEqDiff, ↓reduceIte, reduceCtorEq, Nat.reduceBEq, beq_self_eq_true, Bool.false_eq_true] <;> rfl) : BTs p := ⟨h⟩
structure BE (p : Prop) : Prop where
  out : p
theorem BE.go {p : Prop} (h : p := by simp only [go_sem, Nat.reduceLT, Nat.reduceEqDiff, ↓reduceIte, reduceCtorEq]; rfl) : BE p := ⟨h⟩
structure BW (p : Prop) : Prop where
  out : p
theorem BW.go {p : Prop} (h : p := by first | rfl | (simp (disch := omega) only [*, go_sem, eq_self, Nat.reduceLT, Nat.reduceEqDiff, ↓reduceIte, reduceCtorEq, Nat.reduceBEq, Nat.reduceBeqDiff, Nat.reduceBneDiff]; rfl)) : BW p := ⟨h⟩
structure BR (p : Prop) : Prop where
  out : p
theorem BR.go {p : Prop} (h : p := by rfl) : BR p := ⟨h⟩
structure BK (p : Prop) : Prop where
  out : p
theorem BK.go {p : Prop} (h : p := by kernel_rfl) : BK p := ⟨h⟩
structure BG (p : Prop) : Prop where
  out : p
theorem BG.go {p : Prop} (h : p := by simp only [List.getElem?_toArray, List.getElem?_cons_zero, List.getElem?_cons_succ]; rfl) : BG p := ⟨h⟩
structure BF (p : Prop) : Prop where
  out : p
theorem BF.go {p : Prop} (h : p := by simp only [go_sem, Nat.reduceAdd, Nat.reduceLT, Nat.reduceEqDiff, Nat.reduceLeDiff, ↓reduceIte, reduceCtorEq]; rfl) : BF p := ⟨h⟩
structure BJ (p : Prop) : Prop where
  out : p
theorem BJ.go {p : Prop} (h : p := by simp only [nextCall, isCall, List.takeWhile_cons, List.takeWhile_nil, List.drop_zero, List.drop_succ_cons, List.length_cons, List.length_nil, Bool.not_false, Bool.not_true, Bool.false_eq_true, Nat.reduceAdd, Nat.zero_add, Nat.add_zero, ↓reduceIte]; rfl) : BJ p := ⟨h⟩
structure B1 (p : Prop) : Prop where
  out : p
theorem B1.go {p : Prop} (h : p := by first | (simp only [*, go_sem]; done) | rfl) : B1 p := ⟨h⟩
structure BM (p : Prop) : Prop where
  out : p
theorem BM.go {p : Prop} (h : p := by first | (simp only [go_sem]; done) | (simp only [go_sem, noMutL_append, Bool.and_true, Bool.true_and, Bool.and_self]; done)) : BM p := ⟨h⟩

/-! One operation after the other. -/
section
variable {P : Program} {nt : Nat} {fx : List Nat} {X Y : St} {ops : Array Oper} {i d : Nat} {o : Oper} {r : List Oper} {Q : St → Prop} {b : Bool} {g : T}
theorem nin {fx : List Nat} {d nt : Nat} (h : (fx.contains d || !Nat.blt d nt) = false) : d ∉ fx ∧ d < nt := by
  rw [Bool.or_eq_false_iff] at h
  refine ⟨fun hm => ?_, Nat.le_of_ble_eq_true ?_⟩
  · have := h.1
    rw [List.contains_iff_mem.2 hm] at this
    cases this
  · cases hb : Nat.blt d nt with
    | true => exact hb
    | false => have := h.2; rw [hb] at this; cases this
/-- Operations i on, then Q. -/
def evK (P : Program) (nt : Nat) (fx : List Nat) (ops : Array Oper) (i : Nat) (l : List Oper) (X : St) (Q : St → Prop) : Prop := ∃ Y, evR P nt fx ops i l X = some Y ∧ Q Y
def evQ (P : Program) (nt : Nat) (fx : List Nat) (ops : Array Oper) (i : Nat) (o : Oper) (r : List Oper) (b : Bool) (X : St) (Q : St → Prop) : Prop := want X ops o = some b → evK P nt fx ops i (o :: r) X Q
theorem evK.nil (h : Q X) : evK P nt fx ops i [] X Q := ⟨X, rfl, h⟩
theorem evQ.tt (ha : BS (act1 P nt fx X o (100 + 8 * i) = some Y)) (h : evK P nt fx ops (i + 1) r Y Q) : evQ P nt fx ops i o r true X Q := by
  intro hw
  obtain ⟨Z, h1, h2⟩ := h
  refine ⟨Z, ?_, h2⟩
  unfold evR
  rw [hw]
  simp only [ha.out]
  exact h1
theorem evQ.ff (hd : BR (o.dst = some d)) (hf : BR ((fx.contains d || !Nat.blt d nt) = false)) (e : BE (({ X with env := ins X.env d uT } : St) = Y)) (h : evK P nt fx ops (i + 1) r Y Q) : evQ P nt fx ops i o r false X Q := by
  intro hw
  obtain ⟨Z, h1, h2⟩ := h
  refine ⟨Z, ?_, h2⟩
  unfold evR
  rw [hw]
  simp only [hd.out]
  rw [if_pos (nin hf.out), e.out]
  exact h1
theorem evK.q (hw : BW (want X ops o = some b)) (h : evQ P nt fx ops i o r b X Q) : evK P nt fx ops i (o :: r) X Q := h hw.out
theorem evK.u {dd : Option Tmp} {op : Op} {ty : TypeId} {ps : String} {af : Array Edge} (ha : BS (act1 P nt fx X { dst := dd, op := op, type := ty, pos := ps, after := af, guard := none } (100 + 8 * i) = some Y)) (h : evK P nt fx ops (i + 1) r Y Q) : evK P nt fx ops i ({ dst := dd, op := op, type := ty, pos := ps, after := af, guard := none } :: r) X Q := evK.q (b := true) ⟨rfl⟩ (evQ.tt ha h)
def evM (P : Program) (nt : Nat) (fx : List Nat) (ops : Array Oper) (l : List Oper) (X : St) (Q : St → Prop) : Prop := ∃ Y, evE P nt fx ops l X = some Y ∧ Q Y
def evF (P : Program) (nt : Nat) (fx : List Nat) (ops : Array Oper) (o : Oper) (r : List Oper) (b : Bool) (X : St) (Q : St → Prop) : Prop := want X ops o = some b → evM P nt fx ops (o :: r) X Q
theorem evM.nil (h : Q X) : evM P nt fx ops [] X Q := ⟨X, rfl, h⟩
theorem evF.tt (ht : BS (evV P X o = some g)) (hd : BR (o.dst = some d)) (hf : BR ((fx.contains d || !Nat.blt d nt) = false)) (e : BE (({ X with env := ins X.env d g } : St) = Y)) (h : evM P nt fx ops r Y Q) : evF P nt fx ops o r true X Q := by
  intro hw
  obtain ⟨Z, h1, h2⟩ := h
  refine ⟨Z, ?_, h2⟩
  unfold evE
  simp only [hd.out]
  rw [if_pos (nin hf.out), hw]
  simp only [ht.out]
  rw [e.out]
  exact h1
theorem evF.ff (hd : BR (o.dst = some d)) (hf : BR ((fx.contains d || !Nat.blt d nt) = false)) (e : BE (({ X with env := ins X.env d uT } : St) = Y)) (h : evM P nt fx ops r Y Q) : evF P nt fx ops o r false X Q := by
  intro hw
  obtain ⟨Z, h1, h2⟩ := h
  refine ⟨Z, ?_, h2⟩
  unfold evE
  simp only [hd.out]
  rw [if_pos (nin hf.out), hw]
  simp only
  rw [e.out]
  exact h1
theorem evM.q (hw : BW (want X ops o = some b)) (h : evF P nt fx ops o r b X Q) : evM P nt fx ops (o :: r) X Q := h hw.out
def evW (P : Program) (nt : Nat) (fx : List Nat) (ops : Array Oper) (l : List Nat) (X : St) (Q : St → Prop) : Prop := ∃ Y, evD P nt fx ops l X = some Y ∧ Q Y
def evH (P : Program) (nt : Nat) (fx : List Nat) (ops : Array Oper) (i : Nat) (o : Oper) (l : List Nat) (b : Bool) (X : St) (Q : St → Prop) : Prop := ops[i]? = some o → want X ops o = some b → evW P nt fx ops (i :: l) X Q
theorem evW.nil (h : Q X) : evW P nt fx ops [] X Q := ⟨X, rfl, h⟩
theorem evW.q {l : List Nat} (ho : BG (ops[i]? = some o)) (hw : BW (want X ops o = some b)) (h : evH P nt fx ops i o l b X Q) : evW P nt fx ops (i :: l) X Q := h ho.out hw.out
theorem evH.tt {l : List Nat} (ht : BS (evV P X o = some g)) (hd : BR (o.dst = some d)) (hf : BR ((fx.contains d || !Nat.blt d nt) = false)) (e : BE (({ X with env := ins X.env d g } : St) = Y)) (h : evW P nt fx ops l Y Q) : evH P nt fx ops i o l true X Q := by
  intro ho hw
  obtain ⟨Z, h1, h2⟩ := h
  refine ⟨Z, ?_, h2⟩
  unfold evD
  simp only [ho, hd.out]
  rw [if_pos (nin hf.out), hw]
  simp only [ht.out]
  rw [e.out]
  exact h1
theorem evH.ff {l : List Nat} (hd : BR (o.dst = some d)) (hf : BR ((fx.contains d || !Nat.blt d nt) = false)) (e : BE (({ X with env := ins X.env d uT } : St) = Y)) (h : evW P nt fx ops l Y Q) : evH P nt fx ops i o l false X Q := by
  intro ho hw
  obtain ⟨Z, h1, h2⟩ := h
  refine ⟨Z, ?_, h2⟩
  unfold evD
  simp only [ho, hd.out]
  rw [if_pos (nin hf.out), hw]
  simp only
  rw [e.out]
  exact h1
end
structure BV (p : Prop) : Prop where
  out : p
theorem BV.go {p : Prop} (h : p := by
    repeat (first | (apply evK.u; exact BS.go) | (apply evK.q; exact BW.go) | (apply evQ.tt; exact BS.go) | (apply evQ.ff; exact BR.go; exact BR.go; exact BE.go))
    apply evK.nil
    apply BT.out
    exact BT.go) : BV p := ⟨h⟩
structure BU (p : Prop) : Prop where
  out : p
theorem BU.go {p : Prop} (h : p := by
    repeat (first | (apply evK.u; exact BS.go) | (apply evK.q; exact BW.go) | (apply evQ.tt; exact BS.go) | (apply evQ.ff; exact BR.go; exact BR.go; exact BE.go))
    exact evK.nil rfl) : BU p := ⟨h⟩
structure BX (p : Prop) : Prop where
  out : p
theorem BX.go {p : Prop} (h : p := by
    repeat (first | (apply evM.q; exact BW.go) | (apply evF.tt; exact BS.go; exact BR.go; exact BR.go; exact BE.go) | (apply evF.ff; exact BR.go; exact BR.go; exact BE.go))
    apply evM.nil
    apply BT.out
    exact BT.go) : BX p := ⟨h⟩
structure BN (p : Prop) : Prop where
  out : p
theorem BN.go {p : Prop} (h : p := by
    repeat (first | (apply evW.q; exact BG.go; exact BW.go) | (apply evH.tt; exact BS.go; exact BR.go; exact BR.go; exact BE.go) | (apply evH.ff; exact BR.go; exact BR.go; exact BE.go))
    exact evW.nil rfl) : BN p := ⟨h⟩

/-- A fact that is kept out of the way. -/
structure Hold (p : Prop) : Type where
  out : p
section
variable {an : An} {C : Cx} {P : Program} {nt : Nat} {fx : List Nat} {X X' : St} {ops : Array Oper} {K : List Item}
theorem Ok.rN (vs : List Nat) (hP : C.P = P) (hn : C.nt = nt) (hx : C.fx = fx) {id : Nat} (hc : BR (noCall ops.toList = true)) (e : BV (evK P nt fx ops 0 ops.toList X (fun Y => Abs.tidy vs Y = X'))) (h : Ok C K X') : Ok C (.code (.region id ops false) :: K) X := by
  obtain ⟨Y, e, et⟩ := e.out
  exact Ok.rgN ⟨fun _ => [], fun _ => []⟩ hP hn hx hc.out e (Ok.tidy' vs et h)
theorem Ok.rD (vs : List Nat) (hP : C.P = P) (hn : C.nt = nt) (hx : C.fx = fx) (hm : P.follows .mixedOrders = true) {id : Nat} (hd : BK (drawD ops (noneL (List.range ops.size)) = true)) (e : BX (evM P nt fx ops ops.toList X (fun Y => Abs.tidy vs Y = X'))) (h : Ok C K X') : Ok C (.code (.region id ops true) :: K) X := by
  obtain ⟨Y, e, et⟩ := e.out
  exact Ok.rgE ⟨fun _ => [], fun _ => []⟩ hP hn hx hm hd.out e (Ok.tidy' vs et h)
theorem Ok.ex {id : Nat} {K' : List Item} (hk : BR (exitTo id K = some K')) (h : Ok C K' X) : Ok C (.code (.exit id) :: K) X := Ok.exit h hk.out
theorem Ok.cn {c : Operand} {x y : Code} {b : Bool} (hc : BS (scal X c = some (.bool b))) (h : Ok C (.code (bif b then x else y) :: K) X) : Ok C (.code (.cond c x y) :: K) X := Ok.cond hc.out (by cases b <;> exact h)
/-- Into a loop. -/
theorem Ok.lq {c : Code} (vs : List Nat) (J : Nat → St → Prop) (e : BT (Abs.tidy vs X = X')) (h0 : ∃ k, J k X') (hr : ∀ k X, J k X → Hold (∀ k' X', k' < k → J k' X' → Ok C (.inLoop c :: K) X') → Ok C (.code c :: .inLoop c :: K) X) : Ok C (.code (.loop c) :: K) X := by
  obtain ⟨k, h0⟩ := h0
  exact Ok.tidy' vs e.out (Ok.loop J (fun k X h ih => hr k X h ⟨ih⟩) h0)
/-- Round again. -/
theorem Ok.ag {c : Code} (vs : List Nat) {J : Nat → St → Prop} {k : Nat} (ih : Hold (∀ k' X', k' < k → J k' X' → Ok C (.inLoop c :: K) X')) (e : BT (Abs.tidy vs X = X')) (h : ∃ k', k' < k ∧ J k' X') : Ok C (.inLoop c :: K) X := by
  obtain ⟨k', h1, h2⟩ := h
  exact Ok.tidy' vs e.out (ih.out k' X' h1 h2)
/-- A meeting is reached. -/
theorem Ok.mt (vs : List Nat) {J : St → Prop} (hj : Hold (∀ X, J X → Ok C K X)) (e : BT (Abs.tidy vs X = X')) (h : J X') : Ok C K X := Ok.tidy' vs e.out (hj.out _ h)
theorem Ok.bk (rv : Array ResultVar) {args outs outs' : List Arg} {F : List Nat} {res res' : List (Bool × List Cell)} {p : St × List (Bool × List Cell × Option Nat)} {ids : List Nat} (hC : Good C args F res outs) (hP : C.P = P) (hx : C.fx = fixed 0 args) {fn : Func} (hf : P.funcs[C.fid]? = some fn) (hrv : BR (fn.results = rv))
    (hfin : BF (Abs.fin P X 1000 rv.toList = some p)) (hres : BF (finRes p.2 = res')) (hlv : BF (Abs.leaveA p.1 0 args = some (outs', ids))) (hmut : BM (finMut p.2 = true)) (hk : BR (keysLt 1000 X.sg = true)) (hids : BR (onceB ids = true)) (hidl : BR (allLt 1000 ids = true)) (e1 : B1 (res' = res)) (e2 : BR (outs' = outs)) : Ok C (.code .ret :: K) X :=
  Ok.back hC hP hf hx hk.out (hrv.out ▸ hfin.out) hres.out hmut.out hlv.out hids.out hidl.out e1.out e2.out
theorem Ok.bkE (rv : Array ResultVar) {args outs outs' : List Arg} {F : List Nat} {res res' : List (Bool × List Cell)} {p : St × List (Bool × List Cell × Option Nat)} {ids : List Nat} (hC : Good C args F res outs) (hP : C.P = P) (hx : C.fx = fixed 0 args) {fn : Func} (hf : P.funcs[C.fid]? = some fn) (hrv : BR (fn.results = rv))
    (hfin : BF (Abs.fin P X 1000 rv.toList = some p)) (hres : BF (finRes p.2 = res')) (hlv : BF (Abs.leaveA p.1 0 args = some (outs', ids))) (hmut : BM (finMut p.2 = true)) (hk : BR (keysLt 1000 X.sg = true)) (hids : BR (onceB ids = true)) (hidl : BR (allLt 1000 ids = true)) (e1 : B1 (res' = res)) (e2 : B1 (outs' = outs)) : Ok C [] X :=
  Ok.backE hC hP hf hx hk.out (hrv.out ▸ hfin.out) hres.out hmut.out hlv.out hids.out hidl.out e1.out e2.out
theorem Ok.bkB (rv : Array ResultVar) {args outs outs' : List Arg} {F : List Nat} {res res' : List (Bool × List Cell)} {p : St × List (Bool × List Cell × Option Nat)} {ids : List Nat} (hC : Good C args F res outs) (hP : C.P = P) (hx : C.fx = fixed 0 args) {fn : Func} (hf : P.funcs[C.fid]? = some fn) (hrv : BR (fn.results = rv))
    (hfin : BF (Abs.fin P X 1000 rv.toList = some p)) (hres : BF (finRes p.2 = res')) (hlv : BF (Abs.leaveA p.1 0 args = some (outs', ids))) (hmut : BM (finMut p.2 = true)) (hk : BR (keysLt 1000 X.sg = true)) (hids : BR (onceB ids = true)) (hidl : BR (allLt 1000 ids = true)) (e1 : B1 (res' = res)) (e2 : B1 (outs' = outs)) : Ok C (.code .ret :: K) X :=
  Ok.back hC hP hf hx hk.out (hrv.out ▸ hfin.out) hres.out hmut.out hlv.out hids.out hidl.out e1.out e2.out
end
attribute [go_sem] uT evR evE evD want act1 evV Abs.look ins del lk isNil scal evBin evUn evLoad evField evIndex evLen slc cont row tidy keep idsE gcS renE addId addIds renT renU refs refU pos keysLt fin finRes finMut leaveA onceB allLt cpyL cpy noMutL noMut mutFree
  List.length_cons List.length_nil List.take_zero List.take_succ_cons List.drop_zero List.drop_succ_cons List.getElem?_cons_zero List.getElem?_cons_succ List.getElem?_toArray List.size_toArray List.not_mem_nil not_false_eq_true and_self if_true if_false Option.map_some Option.map_none Option.bind_some decide_true decide_false beq_self_eq_true Bool.not_true Bool.not_false ne_eq Bool.and_true Bool.true_and true_and and_true List.contains_cons List.contains_nil Bool.or_false Bool.or_true Bool.true_or Bool.false_or Nat.zero_add Nat.add_zero bytes_eq wrap_i64 List.nil_append List.cons_append Bool.false_eq_true eS_nm eI_nm List.range_succ List.range_zero Bool.and_self not_true_eq_false eS eI
end Go.Proofs.Ytppfilhlblnmcaa.Abs
/- An abstract machine for the walks, part 34: the ways that a plain function goes. No condition. -/
set_option linter.unusedVariables false
namespace Go.Proofs.Ytppfilhlblnmcaa.Abs
open Go

section
variable {α β : Type} {x y : Option α} {r : α}
theorem sBind {m : Option β} {f : β → Option α} (h : m.bind f = some r) : ∃ t, m = some t ∧ f t = some r := by
  cases m with
  | none => cases h
  | some t => exact ⟨t, rfl, h⟩
theorem sBindA {m : Option β} {f : β → Option α} {t : β} (h : m.bind f = some r) (hm : m = some t) : f t = some r := by
  subst hm
  exact h
theorem sBool {t : Bool} (h : (if t = true then x else y) = some r) : (t = true ∧ x = some r) ∨ (t = false ∧ y = some r) := by
  cases t
  · exact .inr ⟨rfl, by simpa using h⟩
  · exact .inl ⟨rfl, by simpa using h⟩
theorem sEq {a b : Int} (h : (if a = b then x else y) = some r) : ((a = b) = True ∧ (a ≤ b ∧ b ≤ a) ∧ x = some r) ∨ (¬ a = b ∧ True ∧ y = some r) := by
  by_cases c : a = b
  · rw [if_pos c] at h
    exact .inl ⟨eq_true c, ⟨by omega, by omega⟩, h⟩
  · rw [if_neg c] at h
    exact .inr ⟨c, trivial, h⟩
theorem sEqL {γ : Type} {a b : γ} {d : Decidable (a = b)} (h : (if a = b then x else y) = some r) : ((a = b) = True ∧ x = some r) ∨ (¬ a = b ∧ y = some r) := by
  by_cases c : a = b
  · rw [if_pos c] at h
    exact .inl ⟨eq_true c, h⟩
  · rw [if_neg c] at h
    exact .inr ⟨c, h⟩
theorem sIte {p : Prop} {d : Decidable p} (h : (if p then x else y) = some r) : (p ∧ x = some r) ∨ (¬ p ∧ y = some r) := by
  by_cases c : p
  · rw [if_pos c] at h
    exact .inl ⟨c, h⟩
  · rw [if_neg c] at h
    exact .inr ⟨c, h⟩
theorem sAnd {a b : Bool} {r : Bool} (h : some (a && b) = some r) : (a = false ∧ some false = some r) ∨ (a = true ∧ some b = some r) := by
  cases a
  · exact .inl ⟨rfl, h⟩
  · exact .inr ⟨rfl, h⟩
theorem sOr {a b : Bool} {r : Bool} (h : some (a || b) = some r) : (a = true ∧ some true = some r) ∨ (a = false ∧ some b = some r) := by
  cases a
  · exact .inr ⟨rfl, h⟩
  · exact .inl ⟨rfl, h⟩
end
theorem beq_dec {α : Type} [BEq α] [LawfulBEq α] [DecidableEq α] (x y : α) : (x == y) = decide (x = y) := by
  by_cases h : x = y <;> simp [h]
theorem bne_dec {α : Type} [BEq α] [LawfulBEq α] [DecidableEq α] (x y : α) : (x != y) = !decide (x = y) := by
  by_cases h : x = y <;> simp [h, bne]
section
variable {α : Type} {p q : Prop} [Decidable p] [Decidable q] {x y : α}
theorem ite_or' : (if p ∨ q then x else y) = if p then x else if q then x else y := by by_cases h : p <;> by_cases k : q <;> simp [h, k]
theorem ite_and' : (if p ∧ q then x else y) = if p then (if q then x else y) else y := by by_cases h : p <;> by_cases k : q <;> simp [h, k]
theorem ite_not' : (if ¬ p then x else y) = if p then y else x := by by_cases h : p <;> simp [h]
end
attribute [go_sem] ge_iff_le gt_iff_lt
end Go.Proofs.Ytppfilhlblnmcaa.Abs
/- An abstract machine for the walks, part 35: the rules for regions with calls. No condition. -/
set_option linter.unusedVariables false
namespace Go.Proofs.Ytppfilhlblnmcaa.Abs
open Go

/-- The functions that write through a pointer that they are handed, with these parameters' numbers. -/
def wr0 (f : FuncId) : List Nat := if f = 35 then [0] else if f = 22 then [0] else []
def an0 : An := ⟨wr0, fun _ => []⟩
def callAt (ops : Array Oper) (i : Nat) : Bool := match ops[i]? with
  | some o => isCall o.op
  | none => false
/-- The next call's number, from i on. -/
def nextCall (ops : Array Oper) (i : Nat) : Nat := i + ((ops.toList.drop i).takeWhile fun o => !isCall o.op).length
/-- What is handed over is known: the call, and on. -/
def goK (an : An) (C : Cx) (ops : Array Oper) (K : List Item) (i : Nat) (d : Option Tmp) (fid : FuncId) (args : List Arg) (l m : List Nat) (X : St) : Prop := ∃ (res : List (Bool × List Cell)) (outs : List Arg) (X' : St), ACalls C.P fid args res outs ∧ after C.nt C.fx X args outs l m res (100 + 8 * i) d = some X' ∧ goE an C ops K (i + 1) X'
def goKD (an : An) (C : Cx) (ops : Array Oper) (K : List Item) (q : List Nat) (r : List (Nat × Option (List Nat))) (i : Nat) (d : Option Tmp) (fid : FuncId) (args : List Arg) (l m : List Nat) (X : St) : Prop := ∃ (res : List (Bool × List Cell)) (outs : List Arg) (X' : St), ACalls C.P fid args res outs ∧ after C.nt C.fx X args outs l m res (100 + 8 * i) d = some X' ∧ (∀ j ∈ q, StabD C ops X' j) ∧ goD an C ops K r X'
/-- The operations that a drawn region may do later would then do the same. -/
def stabE (P : Program) (nt : Nat) (fx : List Nat) (ops : Array Oper) (Y : St) : List Nat → Prop
  | [] => True
  | j :: r => (match ops[j]? with
    | none => False
    | some o => match o.dst with
      | none => False
      | some d => (d ∉ fx ∧ d < nt) ∧ match want Y ops o with
        | some true => evV P Y o = lk Y.env d ∧ (lk Y.env d).isSome = true
        | some false => lk Y.env d = some uT
        | none => False) ∧ stabE P nt fx ops Y r
theorem stabE_ok {C : Cx} {P : Program} {nt : Nat} {fx : List Nat} {ops : Array Oper} {Y : St} (hP : C.P = P) (hn : C.nt = nt) (hx : C.fx = fx) : ∀ {q : List Nat}, stabE P nt fx ops Y q → ∀ j ∈ q, StabD C ops Y j
  | [], _, j, hj => nomatch hj
  | i :: q, h, j, hj => by
    rcases List.mem_cons.1 hj with rfl | hj
    · obtain ⟨h, _⟩ := h
      unfold StabD
      split at h
      · exact h.elim
      · rename_i o ho
        rw [ho]
        split at h
        · exact h.elim
        · rename_i d hd
          obtain ⟨h1, h2⟩ := h
          simp only [hd]
          refine ⟨hx ▸ h1.1, hn ▸ h1.2, ?_⟩
          split at h2
          · rename_i hw
            rw [hw]
            obtain ⟨h3, h4⟩ := h2
            obtain ⟨x, hx'⟩ := Option.isSome_iff_exists.1 h4
            exact ⟨x, by rw [hP, h3, hx'], hx'⟩
          · rename_i hw
            rw [hw]
            exact h2
          · exact h2.elim
    · exact stabE_ok hP hn hx h.2 j hj
/-- As goE, at a call that is made if b. -/
def goQ (an : An) (C : Cx) (ops : Array Oper) (K : List Item) (i : Nat) (o : Oper) (b : Bool) (X : St) : Prop := ops[i]? = some o → want X ops o = some b → goE an C ops K i X
def goQD (an : An) (C : Cx) (ops : Array Oper) (K : List Item) (q : List Nat) (r : List (Nat × Option (List Nat))) (i : Nat) (o : Oper) (b : Bool) (X : St) : Prop := ops[i]? = some o → want X ops o = some b → goD an C ops K ((i, some q) :: r) X
section
variable {an : An} {C : Cx} {P : Program} {nt : Nat} {fx : List Nat} {X X' : St} {ops : Array Oper} {K : List Item}
theorem takeWhile_eq {α : Type} (p : α → Bool) : ∀ (l : List α), l.take (l.takeWhile p).length = l.takeWhile p
  | [] => rfl
  | x :: l => by
    rw [List.takeWhile_cons]
    split
    · rw [List.length_cons, List.take_succ_cons, takeWhile_eq p l]
    · rfl
theorem takeWhile_len {α : Type} (p : α → Bool) : ∀ (l : List α), (l.takeWhile p).length ≤ l.length
  | [] => Nat.le_refl _
  | x :: l => by
    rw [List.takeWhile_cons]
    split
    · rw [List.length_cons, List.length_cons]; exact Nat.succ_le_succ (takeWhile_len p l)
    · exact Nat.zero_le _
theorem takeWhile_all {α : Type} (p : α → Bool) : ∀ (l : List α), (l.takeWhile p).all p = true
  | [] => rfl
  | x :: l => by
    rw [List.takeWhile_cons]
    split
    · rename_i h; rw [List.all_cons, h, takeWhile_all p l]; rfl
    · rfl
theorem Ok.gS {id : Nat} (h : goE an0 C ops K 0 X) : Ok C (.code (.region id ops false) :: K) X := Ok.gE an0 h
theorem goE.e (vs : List Nat) (hP : C.P = P) (hn : C.nt = nt) (hx : C.fx = fx) {i : Nat} (hc : BR ((noCall (ops.toList.drop i) && Nat.ble i ops.size) = true)) (e : BV (evK P nt fx ops i (ops.toList.drop i) X (fun Y => Abs.tidy vs Y = X'))) (h : Ok C K X') : goE an C ops K i X := by
  obtain ⟨Y, e, et⟩ := e.out
  have hc := hc.out
  rw [Bool.and_eq_true] at hc
  obtain ⟨hc, hi⟩ := hc
  have hi := Nat.le_of_ble_eq_true hi
  have ht : (ops.toList.drop i).take (ops.size - i) = ops.toList.drop i := by
    rw [List.take_of_length_le]
    rw [List.length_drop, Array.length_toList]
    exact Nat.le_refl _
  exact goE.v hP hn hx ops.size (by rw [ht]; exact hc) ⟨hi, Nat.le_refl _⟩ (by rw [ht]; exact e) (goE.end (Ok.tidy' vs et h))
theorem goD.z (vs : List Nat) (e : BT (Abs.tidy vs X = X')) (h : Ok C K X') : Abs.goD an C ops K [] X := goD.end (Ok.tidy' vs e.out h)
theorem goE.n (hP : C.P = P) (hn : C.nt = nt) (hx : C.fx = fx) {i j : Nat} (hlt : BR ((Nat.blt i (nextCall ops i) && Nat.ble i ops.size) = true)) (hj : BJ (nextCall ops i = j)) (e : BU (evK P nt fx ops i ((ops.toList.drop i).take (j - i)) X (fun Y => Y = X'))) (h : goE an C ops K j X') : goE an C ops K i X := by
  replace e := e.out
  obtain ⟨_, e, rfl⟩ := e
  have hlt := hlt.out
  rw [Bool.and_eq_true] at hlt
  obtain ⟨hlt, hi⟩ := hlt
  have hi := Nat.le_of_ble_eq_true hi
  have hj := hj.out
  subst hj
  have hk : nextCall ops i - i = ((ops.toList.drop i).takeWhile fun o => !isCall o.op).length := by unfold nextCall; omega
  refine goE.v hP hn hx _ ?_ ⟨by unfold nextCall; omega, ?_⟩ e h
  · rw [hk, takeWhile_eq]
    exact takeWhile_all _ _
  · have := takeWhile_len (fun o => !isCall o.op) (ops.toList.drop i)
    rw [List.length_drop, Array.length_toList (xs := ops)] at this
    show i + ((ops.toList.drop i).takeWhile fun o => !isCall o.op).length ≤ ops.size
    generalize ((ops.toList.drop i).takeWhile fun o => !isCall o.op).length = n at this ⊢
    omega
theorem goE.q {i : Nat} {o : Oper} {b : Bool} (hg : BR (callAt ops i = true)) (ho : BG (ops[i]? = some o)) (hw : BW (want X ops o = some b)) (h : goQ an C ops K i o b X) : goE an C ops K i X := h ho.out hw.out
theorem goQ.t (hP : C.P = P) {i : Nat} {o : Oper} {f : Operand} {xs : Array Operand} {ts : Array TypeId} {d : Option Tmp} {fid : FuncId} {args : List Arg} {l m : List Nat} (hop : BR (o.op = .call { callee := .value f, args := xs, argTypes := ts })) (hd : BR (o.dst = d)) (hp : BS (prep an X f xs.toList = some (fid, args, l, m))) (h : goK an C ops K i d fid args l m X) : goQ an C ops K i o true X := by
  intro ho hw
  obtain ⟨res, outs, X', h1, h2, h3⟩ := h
  exact goE.c rfl rfl rfl ho hop.out hw hp.out h1 (hd.out ▸ h2) h3
theorem goQ.f (hn : C.nt = nt) (hx : C.fx = fx) {i : Nat} {o : Oper} {d : Nat} (hd : BR (o.dst = some d)) (hf : BR ((fx.contains d || !Nat.blt d nt) = false)) (e : BE (({ X with env := ins X.env d uT } : St) = X')) (h : goE an C ops K (i + 1) X') : goQ an C ops K i o false X := by
  intro ho hw n hsz
  have hlt : i < ops.size := by
    rcases Nat.lt_or_ge i ops.size with h1 | h1
    · exact h1
    · rw [Array.getElem?_eq_none h1] at ho; cases ho
  obtain ⟨m, rfl⟩ : ∃ m, n = m + 1 := ⟨n - 1, by omega⟩
  rw [List.range'_succ]
  unfold goR
  rw [ho]
  simp only [hw, hd.out]
  refine ⟨⟨hx ▸ (nin hf.out).1, hn ▸ (nin hf.out).2⟩, ?_⟩
  rw [e.out]
  exact h m (by omega)
theorem goK.k (hP : C.P = P) (hn : C.nt = nt) (hx : C.fx = fx) {i : Nat} {d : Option Tmp} {fid : FuncId} {args outs : List Arg} {l m : List Nat} {res : List (Bool × List Cell)} (hc : ACalls P fid args res outs) (ha : BS (after nt fx X args outs l m res (100 + 8 * i) d = some X')) (h : goE an C ops K (i + 1) X') : goK an C ops K i d fid args l m X :=
  ⟨res, outs, X', hP ▸ hc, by rw [hn, hx]; exact ha.out, h⟩
theorem Ok.gD (id : Nat) (r : List (Nat × Option (List Nat))) (hP : C.P = P) (hm : P.follows .mixedOrders = true) (hd : BK (drawD ops r = true)) (h : Abs.goD an0 C ops K r X) : Ok C (.code (.region id ops true) :: K) X := Ok.goD r (hP ▸ hm) hd.out h
theorem goD.n (hP : C.P = P) (hn : C.nt = nt) (hx : C.fx = fx) {l : List Nat} {r : List (Nat × Option (List Nat))} (e : BN (evW P nt fx ops l X (fun Y => Y = X'))) (h : goD an C ops K r X') : goD an C ops K (noneL l ++ r) X := by
  replace e := e.out
  obtain ⟨_, e, rfl⟩ := e
  exact goD.vs hP hn hx l e h
structure BQ (p : Prop) : Prop where
  out : p
theorem BQ.go {p : Prop} (h : p := by simp (disch := omega) only [*, go_sem, eq_self, if_pos, Nat.reduceAdd, Nat.reduceMul, Nat.reduceSub, Nat.reduceDiv, Nat.reduceLT, Nat.reduceEqDiff, Nat.reduceLeDiff, Int.reduceLE, Int.reduceLT, Int.reduceEq, Int.reduceToNat, ↓reduceIte, reduceCtorEq, Nat.reduceBEq, Nat.reduceBneDiff, stabE]) : BQ p := ⟨h⟩
theorem goD.q {i : Nat} {q : List Nat} {r : List (Nat × Option (List Nat))} {o : Oper} {b : Bool} (hg : BR (callAt ops i = true)) (ho : BG (ops[i]? = some o)) (hw : BW (want X ops o = some b)) (h : goQD an C ops K q r i o b X) : goD an C ops K ((i, some q) :: r) X := h ho.out hw.out
theorem goQD.t (hP : C.P = P) {i : Nat} {q : List Nat} {r : List (Nat × Option (List Nat))} {o : Oper} {f : Operand} {xs : Array Operand} {ts : Array TypeId} {d : Option Tmp} {fid : FuncId} {args : List Arg} {l m : List Nat} (hop : BR (o.op = .call { callee := .value f, args := xs, argTypes := ts })) (hd : BR (o.dst = d)) (hp : BS (prep an X f xs.toList = some (fid, args, l, m))) (h : goKD an C ops K q r i d fid args l m X) : goQD an C ops K q r i o true X := by
  intro ho hw
  obtain ⟨res, outs, X', h1, h2, h3, h4⟩ := h
  exact goD.c rfl rfl rfl ho hop.out hw hp.out h1 (hd.out ▸ h2) h3 h4
theorem goQD.f (hP : C.P = P) (hn : C.nt = nt) (hx : C.fx = fx) {i : Nat} {q : List Nat} {r : List (Nat × Option (List Nat))} {o : Oper} {d : Nat} (hd : BR (o.dst = some d)) (hf : BR ((fx.contains d || !Nat.blt d nt) = false)) (e : BE (({ X with env := ins X.env d uT } : St) = X')) (hq : BQ (stabE P nt fx ops X' q)) (h : goD an C ops K r X') : goQD an C ops K q r i o false X := by
  intro ho hw
  unfold goD
  rw [ho]
  simp only [hw, hd.out]
  exact ⟨hx ▸ (nin hf.out).1, hn ▸ (nin hf.out).2, by rw [e.out]; exact stabE_ok hP hn hx hq.out, by rw [e.out]; exact h⟩
theorem goKD.k (hP : C.P = P) (hn : C.nt = nt) (hx : C.fx = fx) {i : Nat} {q : List Nat} {r : List (Nat × Option (List Nat))} {d : Option Tmp} {fid : FuncId} {args outs : List Arg} {l m : List Nat} {res : List (Bool × List Cell)} (hc : ACalls P fid args res outs) (ha : BS (after nt fx X args outs l m res (100 + 8 * i) d = some X')) (hq : BQ (stabE P nt fx ops X' q)) (h : goD an C ops K r X') : goKD an C ops K q r i d fid args l m X :=
  ⟨res, outs, X', hP ▸ hc, by rw [hn, hx]; exact ha.out, stabE_ok hP hn hx hq.out, h⟩
theorem goD.x (hP : C.P = P) (hn : C.nt = nt) (hx : C.fx = fx) {i : Nat} {q : List Nat} {r : List (Nat × Option (List Nat))} {o : Oper} (hg : BR (callAt ops i = false)) (ho : BG (ops[i]? = some o)) (hic : BR (isCall o.op = false)) (hw : BW (want X ops o = some true)) (e : BS (act1 P nt fx X o (100 + 8 * i) = some X')) (hq : BQ (stabE P nt fx ops X' q)) (h : goD an C ops K r X') : goD an C ops K ((i, some q) :: r) X := goD.w hP hn hx ho.out hic.out hw.out e.out (stabE_ok hP hn hx hq.out) h
end
attribute [go_sem] List.set_cons_zero List.set_cons_succ true_or or_true false_or or_false and_false false_and or_self implies_true Option.isSome_some Option.isSome_none Option.isNone_some Option.isNone_none List.isEmpty_nil List.isEmpty_cons Nat.le_refl List.zip_cons_cons List.zip_nil_left List.zip_nil_right List.map_cons List.map_nil List.flatten_cons List.flatten_nil List.append_nil List.mem_cons List.flatMap_nil List.flatMap_cons List.flatMap_append Bool.and_false Bool.false_and Nat.zero_mul Nat.mul_one Nat.one_mul Option.some.injEq List.append_assoc List.toList_toArray
attribute [go_sem] evAppend evN evS gath kill store over setRow insAll killAll resT after oneT onceB notIn shA shC rwA rwC pureR pureLL freshB prep prep1 prepAs prepC an0 wr0 cpyL noMutL shrL shr pureL pure1 okT okU St.set Ob.cells Ob.with holeAt blksA
end Go.Proofs.Ytppfilhlblnmcaa.Abs
/- An abstract machine for the walks, part 36: calls that a guard may leave out; places where ways meet. No condition. -/
set_option linter.unusedVariables false
namespace Go.Proofs.Ytppfilhlblnmcaa.Abs
open Go

section
variable {an : An} {C : Cx} {P : Program} {nt : Nat} {fx : List Nat} {X X' : St} {ops : Array Oper} {K : List Item}
/-- Ways part here and meet behind it. -/
theorem Ok.cutB (N : Nat) (J : St → Prop) {c : Code} (hb : Hold (∀ X, J X → Ok C K X) → Ok C (.code (.block N c) :: K) X) (hj : ∀ X, J X → Ok C K X) : Ok C (.code (.block N c) :: K) X := hb ⟨hj⟩
theorem Ok.cutI (N : Nat) (J : St → Prop) {x y : Code} (hb : Hold (∀ X, J X → Ok C K X) → Ok C (.code (.cond (.tmp N) x y) :: K) X) (hj : ∀ X, J X → Ok C K X) : Ok C (.code (.cond (.tmp N) x y) :: K) X := hb ⟨hj⟩
theorem Ok.cutR (N : Nat) (J : St → Prop) {b : Bool} (hb : Hold (∀ X, J X → Ok C K X) → Ok C (.code (.region N ops b) :: K) X) (hj : ∀ X, J X → Ok C K X) : Ok C (.code (.region N ops b) :: K) X := hb ⟨hj⟩
/-- A test, apart from what follows. -/
theorem sIteU {α : Type} {p : Prop} {d : Decidable p} {x y : Option α} {r : α} (h : (if p then x else y) = some r) : ((if p then some () else none) = some () ∧ x = some r) ∨ ((if p then none else some ()) = some () ∧ y = some r) := by
  by_cases c : p
  · rw [if_pos c] at h
    exact .inl ⟨if_pos c, h⟩
  · rw [if_neg c] at h
    exact .inr ⟨if_neg c, h⟩
end
section
variable {α : Type} {e : α → List Cell} {s : Nat}
theorem slD_map (hs : ∀ x, (e x).length = s) (l : List α) (n : Nat) : List.take ((l.length - n) * s) (List.drop (n * s) (l.flatMap e)) = (l.drop n).flatMap e := by
  rw [drop_map hs, List.take_of_length_le]
  rw [len_map hs, List.length_drop]
  exact Nat.le_refl _
theorem slB_map (hs : ∀ x, (e x).length = s) (l : List α) (h n : Nat) : List.take ((h - n) * s) (List.drop (n * s) (l.flatMap e)) = ((l.drop n).take (h - n)).flatMap e := by
  rw [drop_map hs, take_map hs]
end
attribute [go_sem] evSlice bnd evConv Nat.sub_zero capIds renC capOb prepC leaveC entC evEq evBB Bool.not_eq_true'
theorem sBindS {α β : Type} {v : β} {f : β → Option α} {r : α} (h : (some v).bind f = some r) : f v = some r := h
theorem empty_toList : ByteArray.empty.toList = [] := by simp [Go.ByteArray.toList_eq]
attribute [go_sem] empty_toList
theorem len_rep (n : Nat) (c : List Cell) : (List.replicate n c).flatten.length = n * c.length := by
  induction n with
  | zero => simp
  | succ n ih => rw [List.replicate_succ, List.flatten_cons, List.length_append, ih, Nat.succ_mul, Nat.add_comm]
attribute [go_sem] len_rep List.length_replicate List.length_append
end Go.Proofs.Ytppfilhlblnmcaa.Abs
/- An abstract machine for the walks, part 37: what an argument's data read as; a law's walk out of a function's. No condition beyond what the row gives. -/
set_option linter.unusedVariables false
set_option linter.unusedSimpArgs false
namespace Go.Proofs.Ytppfilhlblnmcaa.Abs
open Go Go.WideShapes
open Go.RowKit (Below)
open Go.Proofs.Ytppfilhlblnmcaa.Opn

/-- Whatever reads at type t is a value of this kind: n cells, e says what they hold; and it is good. -/
def OpnC {H : Type} (enc : TypeId × Value → H) (P : Program) (w : World) (t : TypeId) {α : Type} (n : Nat) (e : α → List Cell) (G : α → Prop) : Prop :=
  0 < n ∧ P.cellsOf t = n ∧ (∀ a, (e a).length = n) ∧ (∀ a, cpyL (e a) = true) ∧ ∀ (fuel : Nat) (cs : List Value) (x : DataW H × List MemPlace), DataW.trod enc P w 0 (fun _ => true) true fuel t cs = some x → ∃ a, RepL w (· < w.heap.size) hv0 (e a) cs [] ∧ G a
def eL {α : Type} (n : Nat) (e : α → List Cell) (l : List α) : List Cell := [.sl none n (l.flatMap e)]

theorem choose_list {α : Type} {p : Nat → α → Prop} : ∀ (n : Nat), (∀ i, i < n → ∃ x, p i x) → ∃ l : List α, l.length = n ∧ ∀ (i : Nat) (x : α), l[i]? = some x → p i x
  | 0, _ => ⟨[], rfl, fun i x h => by simp at h⟩
  | n + 1, h => by
    obtain ⟨l, hl, hp⟩ := choose_list n (fun i hi => h i (by omega))
    obtain ⟨y, hy⟩ := h n (by omega)
    refine ⟨l ++ [y], by simp [hl], fun i x hx => ?_⟩
    rcases Nat.lt_trichotomy i n with hi | hi | hi
    · rw [List.getElem?_append_left (by omega)] at hx
      exact hp i x hx
    · subst hi
      rw [List.getElem?_append_right (by omega), hl] at hx
      simp at hx
      exact hx ▸ hy
    · rw [List.getElem?_eq_none (by simp [hl]; omega)] at hx
      cases hx
theorem add_off (a : Addr) (i : Nat) (h : i ≠ 0) : a.add i = ⟨a.block, a.off + i, none⟩ := by simp [Addr.add, h]
theorem cell_spot {w : World} {a : Addr} {v : Value} (h : w.cell? a = some v) : a.spot = none := by
  unfold World.cell? at h
  split at h
  · split at h
    · cases h
    · rename_i hs
      cases hsp : a.spot with
      | none => rfl
      | some s => rw [hsp] at hs; exact absurd rfl hs
  · cases h

section
variable {H : Type} {enc : TypeId × Value → H} {P : Program} {w : World}
theorem opnC_int {t : TypeId} {k : IntKind} (ht : P.underlying t = some (.int k)) (hc : P.cellsOf t = 1) : OpnC enc P w t 1 (fun a : Int => [.sc (.int k a)]) (GI k) := by
  refine ⟨Nat.one_pos, hc, fun _ => rfl, fun _ => rfl, fun fuel cs x h => ?_⟩
  obtain ⟨n, rfl, _, hw⟩ := DataW.trod_int ht h
  exact ⟨n, Rep.one ⟨rfl, rfl, rfl⟩, hw⟩
theorem opnC_bool {t : TypeId} (ht : P.underlying t = some .bool) (hc : P.cellsOf t = 1) : OpnC enc P w t 1 (fun a : Bool => [.sc (.bool a)]) GB := by
  refine ⟨Nat.one_pos, hc, fun _ => rfl, fun _ => rfl, fun fuel cs x h => ?_⟩
  obtain ⟨b, rfl, _⟩ := DataW.trod_bool ht h
  exact ⟨b, Rep.one ⟨rfl, rfl, rfl⟩, trivial⟩
theorem opnC_str {t : TypeId} (ht : P.underlying t = some .string) (hc : P.cellsOf t = 1) : OpnC enc P w t 1 (fun a : ByteArray => [.sc (.string a)]) GS := by
  refine ⟨Nat.one_pos, hc, fun _ => rfl, fun _ => rfl, fun fuel cs x h => ?_⟩
  obtain ⟨s, rfl, _, hs⟩ := DataW.trod_string ht h
  exact ⟨s, Rep.one ⟨rfl, rfl, rfl⟩, hs⟩
theorem rowsC {α : Type} {e : α → List Cell} {n : Nat} (hn : 0 < n) (hl : ∀ a, (e a).length = n) {A : Nat → Prop} (a : Addr) : ∀ (l : List α) (s : Nat), (∀ i y, l[i]? = some y → ∃ c, w.cells? 0 (a.add ((s + i) * n)) n = some c ∧ RepL w A hv0 (e y) c []) → ∃ vs, RepL w A hv0 (l.flatMap e) vs [] ∧ ∀ i u, vs[i]? = some u → w.cell? (a.add (s * n + i)) = some u
  | [], s, _ => ⟨[], ⟨rfl, rfl⟩, fun i u h => by simp at h⟩
  | y :: l, s, h => by
    obtain ⟨c, h1, h2⟩ := h 0 y rfl
    obtain ⟨vs, h3, h4⟩ := rowsC hn hl a l (s + 1) (fun i y' hi => by
      have := h (i + 1) y' (by simpa using hi)
      rw [show s + 1 + i = s + (i + 1) by omega]
      exact this)
    obtain ⟨_, h5, h6⟩ := World.cells?_some h1
    refine ⟨c ++ vs, by rw [List.flatMap_cons]; exact RepL.append h2 h3, fun i u hi => ?_⟩
    by_cases hin : i < n
    · rw [List.getElem?_append_left (by omega)] at hi
      have := h6 i hin
      rw [Go.Deep.add_add, Nat.add_zero] at this
      rw [this, hi]
    · rw [List.getElem?_append_right (by omega), h5] at hi
      have := h4 (i - n) u hi
      rw [show (s + 1) * n + (i - n) = s * n + i by rw [Nat.succ_mul]; omega] at this
      exact this
theorem opnC_slice {α : Type} {n : Nat} {e : α → List Cell} {G : α → Prop} {t t' : TypeId} (ht : P.underlying t = some (.slice t')) (hc : P.cellsOf t = 1) (h0 : OpnC enc P w t' n e G) : OpnC enc P w t 1 (eL n e) (GL G) := by
  obtain ⟨hn, hcn, hl, hcp, h0⟩ := h0
  have cpl : ∀ l : List α, cpyL (l.flatMap e) = true := fun l => by
    induction l with
    | nil => rfl
    | cons x r ih =>
      rw [List.flatMap_cons]
      have : ∀ (a b : List Cell), cpyL a = true → cpyL b = true → cpyL (a ++ b) = true := by
        intro a
        induction a with
        | nil => intro b _ hb; exact hb
        | cons y a ih =>
          intro b ha hb
          simp only [List.cons_append, cpyL, Bool.and_eq_true] at ha ⊢
          exact ⟨ha.1, ih b ha.2 hb⟩
      exact this _ _ (hcp x) ih
  refine ⟨Nat.one_pos, hc, fun _ => rfl, fun l => by simp [eL, cpyL, cpy, cpl l], fun fuel cs x h => ?_⟩
  rcases Go.Deep.open_slice ht h with ⟨rfl, _⟩ | ⟨a, len, cp, m, k, D, Pl, rfl, _, hle, hm, hmm, _, hx⟩
  · exact ⟨[], Rep.one ⟨none, 0, 0, rfl, hn, by simp, Nat.le_refl _, (fun _ h => nomatch h), rfl, rfl⟩, by simp, by simp⟩
  · simp only [if_true] at hmm
    subst hmm
    obtain ⟨l, hll, hp⟩ := choose_list (p := fun i y => ∃ c, w.cells? 0 (a.add (i * n)) n = some c ∧ RepL w (· < w.heap.size) hv0 (e y) c [] ∧ G y) len (fun i hi => by
      obtain ⟨c, h1, h2⟩ := hx i (by omega)
      obtain ⟨y, h3, h4⟩ := h0 _ _ _ h2
      exact ⟨y, c, hcn ▸ h1, h3, h4⟩)
    have hmx : len ≤ 9223372036854775807 := by simp only [maxLen] at hm; omega
    obtain ⟨vs, hR, hcell⟩ := rowsC (A := (· < w.heap.size)) hn hl a l 0 (fun i y hi => by
      obtain ⟨c, h1, h2, _⟩ := hp i y hi
      exact ⟨c, by rw [Nat.zero_add]; exact h1, h2⟩)
    have hfst : l.flatMap e ≠ [] → ∃ u, w.cell? a = some u := fun hne => by
      have hv := RepL.length hR
      cases vs with
      | nil => exact absurd (List.eq_nil_of_length_eq_zero hv.symm) hne
      | cons u vs => exact ⟨u, by have := hcell 0 u rfl; simpa [Addr.add] using this⟩
    refine ⟨l, Rep.one ⟨some a, len, m, rfl, hn, ?_, hle, (fun _ h => nomatch h), fun hne => ?_, vs, [], hR, fun i u hi => ?_, rfl, rfl, fun hne => ?_⟩, by rw [hll]; exact hmx, fun y hy => ?_⟩
    · rw [← hll]
      clear hp hR hcell hfst hll
      induction l with
      | nil => simp
      | cons y l ih => rw [List.flatMap_cons, List.length_append, hl, List.length_cons, Nat.succ_mul, ih]; omega
    · rcases hne with hne | hne
      · exact absurd rfl hne
      · obtain ⟨u, hu⟩ := hfst hne
        exact cell_spot hu
    · have hlt := (List.getElem?_eq_some_iff.1 hi).1
      have hne : l.flatMap e ≠ [] := by intro h; rw [h] at hR; rw [hR.1] at hlt; simp at hlt
      obtain ⟨u0, hu⟩ := hfst hne
      have hsp := cell_spot hu
      have h5 := hcell i u hi
      rw [Nat.zero_mul, Nat.zero_add] at h5
      by_cases hi0 : i = 0
      · subst hi0
        obtain ⟨ab, ao, asp⟩ := a
        cases hsp
        simpa [Addr.add] using h5
      · rw [add_off _ _ hi0] at h5
        exact h5
    · obtain ⟨u, hu⟩ := hfst hne
      exact cell_some_lt hu
    · obtain ⟨j, hj, rfl⟩ := List.mem_iff_getElem.1 hy
      obtain ⟨c, _, _, h2⟩ := hp j _ (List.getElem?_eq_getElem hj)
      exact h2

/-- The fields from one on, in line. -/
def OpnG (enc : TypeId × Value → H) (P : Program) (w : World) (fs : List Field) (off : Nat) {α : Type} (n : Nat) (e : α → List Cell) (G : α → Prop) : Prop :=
  0 < n ∧ (∀ a, (e a).length = n) ∧ (∀ a, cpyL (e a) = true) ∧ ∀ (m : Nat) (cs : List Value), cs.length = off + n → (∀ f ∈ fs, ∃ x, DataW.trod enc P w 0 (fun _ => true) true m f.type ((cs.drop f.offset).take (P.cellsOf f.type)) = some x) → ∃ a, RepL w (· < w.heap.size) hv0 (e a) (cs.drop off) [] ∧ G a
theorem opnG_one {α : Type} {n : Nat} {e : α → List Cell} {G : α → Prop} {f : Field} {off : Nat} (ho : f.offset = off) (h0 : OpnC enc P w f.type n e G) : OpnG enc P w [f] off n e G := by
  obtain ⟨hn, hcn, hl, hcp, h0⟩ := h0
  refine ⟨hn, hl, hcp, fun m cs hlen hf => ?_⟩
  obtain ⟨x, hx⟩ := hf f (by simp)
  obtain ⟨a, h1, h2⟩ := h0 _ _ _ hx
  rw [ho, hcn, List.take_of_length_le (by simp; omega)] at h1
  exact ⟨a, h1, h2⟩
theorem opnG_cons {α β : Type} {n m : Nat} {e : α → List Cell} {e' : β → List Cell} {G : α → Prop} {G' : β → Prop} {f : Field} {fs : List Field} {off : Nat} (ho : f.offset = off) (h0 : OpnC enc P w f.type n e G)
    (h1 : OpnG enc P w fs (off + n) m e' G') : OpnG enc P w (f :: fs) off (n + m) (fun x : α × β => e x.1 ++ e' x.2) (fun x => G x.1 ∧ G' x.2) := by
  obtain ⟨hn, hcn, hl, hcp, h0⟩ := h0
  obtain ⟨hm, hl', hcp', h1⟩ := h1
  refine ⟨by omega, fun a => by rw [List.length_append, hl, hl'], fun a => ?_, fun k cs hlen hf => ?_⟩
  · have : ∀ (a b : List Cell), cpyL a = true → cpyL b = true → cpyL (a ++ b) = true := by
      intro a
      induction a with
      | nil => intro b _ hb; exact hb
      | cons y a ih =>
        intro b ha hb
        simp only [List.cons_append, cpyL, Bool.and_eq_true] at ha ⊢
        exact ⟨ha.1, ih b ha.2 hb⟩
    exact this _ _ (hcp _) (hcp' _)
  obtain ⟨x, hx⟩ := hf f (by simp)
  obtain ⟨a, h2, h3⟩ := h0 _ _ _ hx
  obtain ⟨b, h4, h5⟩ := h1 k cs (by omega) (fun g hg => hf g (by simp [hg]))
  rw [ho, hcn] at h2
  refine ⟨(a, b), ?_, h3, h5⟩
  rw [← List.drop_drop] at h4
  have := RepL.append h2 h4
  rwa [List.take_append_drop] at this
theorem opnC_struct {α β : Type} {n : Nat} {e : β → List Cell} {G : β → Prop} {t : TypeId} {fs : Array Field} (pr : α → β) (mk : β → α) (hpr : ∀ b, pr (mk b) = b) (ht : P.underlying t = some (.struct fs)) (hc : P.cellsOf t = n) (h0 : OpnG enc P w fs.toList 0 n e G) :
    OpnC enc P w t n (fun x => e (pr x)) (fun x => G (pr x)) := by
  obtain ⟨hn, hl, hcp, h0⟩ := h0
  refine ⟨hn, hc, fun a => hl _, fun a => hcp _, fun fuel cs x h => ?_⟩
  obtain ⟨xs, k, _, _, hl, hlen, hf⟩ := DataW.trod_struct ht h
  obtain ⟨a, h1, h2⟩ := h0 k cs (by omega) (fun f hfm => by
    obtain ⟨i, hi, rfl⟩ := List.mem_iff_getElem.1 hfm
    have hi2 : i < fs.size := by simpa using hi
    have h3 := hf i _ (Array.getElem?_eq_getElem hi2)
    have h4 : i < xs.length := by omega
    rw [List.getElem?_eq_getElem h4] at h3
    exact ⟨_, by simpa using h3⟩)
  refine ⟨mk a, ?_, ?_⟩
  · show RepL w _ hv0 (e (pr (mk a))) cs []
    rw [hpr]
    exact h1
  · show G (pr (mk a))
    rw [hpr]
    exact h2
/-- A slice that is an argument. -/
theorem topC_slice {α : Type} {n : Nat} {e : α → List Cell} {G : α → Prop} {t t' : TypeId} {r : Reach} {b0 : Nat} {v : Value} {dd : DataW H} {p : List MemPlace} (ht : P.underlying t = some (.slice t')) (h0 : OpnC enc P w t n e G)
    (hv : Value.okWide P w r b0 t v) (h : DataW.Trod enc P w 0 (fun _ => true) true t v dd p) : ∃ a, ARep w (· < w.heap.size) (.dat false (e a)) v [] ∧ G a := by
  obtain ⟨A, len, cap, rfl⟩ := okWide_slice ht hv
  obtain ⟨fuel, hf⟩ := h
  obtain ⟨_, _, _, hcp, h0⟩ := h0
  obtain ⟨a, hR, hG⟩ := h0 _ _ _ hf
  exact ⟨a, ⟨rfl, hcp a, [_], by simpa [Value.cells] using hR, rfl⟩, hG⟩
/-- A struct that is an argument. -/
theorem topC_struct {α : Type} {n : Nat} {e : α → List Cell} {G : α → Prop} {t : TypeId} {fs : Array Field} {r : Reach} {b0 : Nat} {v : Value} {dd : DataW H} {p : List MemPlace} (ht : P.underlying t = some (.struct fs)) (h0 : OpnC enc P w t n e G)
    (hv : Value.okWide P w r b0 t v) (h : DataW.Trod enc P w 0 (fun _ => true) true t v dd p) : ∃ a, ARep w (· < w.heap.size) (.dat true (e a)) v [] ∧ G a := by
  obtain ⟨cs, rfl, _⟩ := okWide_struct ht hv
  obtain ⟨fuel, hf⟩ := h
  obtain ⟨_, _, _, hcp, h0⟩ := h0
  obtain ⟨a, hR, hG⟩ := h0 _ _ _ hf
  exact ⟨a, ⟨rfl, hcp a, cs.toList, by simpa [Value.cells] using hR, by simp [mkv]⟩, hG⟩
theorem topC_sc {u : Value} (hu : flat u = true) : ARep w (· < w.heap.size) (.dat false [.sc u]) u [] := ⟨rfl, rfl, [u], Rep.one ⟨rfl, hu, rfl⟩, rfl⟩
theorem asC_nil {A : Nat → Prop} : AsRep w A [] [] [] := ⟨rfl, rfl⟩
theorem asC_cons {A : Nat → Prop} {x : Arg} {r : List Arg} {v : Value} {us : List Value} (h : ARep w A x v []) (k : AsRep w A r us []) : AsRep w A (x :: r) (v :: us) [] := ⟨v, us, [], [], rfl, rfl, h, k⟩
/-- A law's walk. -/
theorem ACalls.law {f : FuncId} {args outs : List Arg} {u : Value} {vs : List Value} (h : ACalls P f args [(false, [.sc u])] outs) (ha : AsRep w (· < w.heap.size) args vs []) : Calls P f vs.toArray w fun e w' => e = .returned u ∧ Below w.heap.size w w' := by
  refine Calls.mono (h.2 w _ vs [] ha List.nodup_nil (fun b hb => nomatch hb) (fun b hb => hb)) fun e w' he => ?_
  obtain ⟨v, rfl, us, Fr, Fo, rfl, hr, _, _, _, hx⟩ := he
  obtain ⟨v, us', F1, F2, rfl, rfl, ⟨vs', hR, hm⟩, hr2⟩ := hr
  obtain ⟨rfl, rfl⟩ := hr2
  cases hm
  obtain ⟨rfl, _, _⟩ := RepL.one hR
  exact ⟨rfl, hx.os, hx.tape, hx.output, hx.size, fun k hk => hx.block k hk (fun hm => nomatch hm)⟩
end
end Go.Proofs.Ytppfilhlblnmcaa.Abs
/- An abstract machine for the walks, part 43: a slice without elements that is owned may be told as one that is not. No condition. -/
set_option linter.unusedVariables false
namespace Go.Proofs.Ytppfilhlblnmcaa.Abs
open Go

/-! Lists of truth values, of bytes. -/
def eU (x : Int) : List Cell := [.sc (.int .u8 x)]
theorem eB_len : ∀ x, (eB x).length = 1 := fun _ => rfl
theorem eB_cpy : ∀ x, cpyL (eB x) = true := fun _ => rfl
theorem eB_nm : ∀ x, noMutL (eB x) = true := fun _ => rfl
theorem eB_pure : ∀ x, pureL (eB x) = true := fun _ => rfl
theorem eB_shr : ∀ x, shrL (eB x) = eB x := fun _ => rfl
theorem eU_len : ∀ x, (eU x).length = 1 := fun _ => rfl
theorem eU_cpy : ∀ x, cpyL (eU x) = true := fun _ => rfl
theorem eU_nm : ∀ x, noMutL (eU x) = true := fun _ => rfl
theorem eU_pure : ∀ x, pureL (eU x) = true := fun _ => rfl
theorem eU_shr : ∀ x, shrL (eU x) = eU x := fun _ => rfl
attribute [go_sem] eB eU
def shE1 : Cell → Cell
  | .sl (some 0) s [] => .sl none s []
  | c => c
def shEL : List Cell → List Cell
  | [] => []
  | c :: r => shE1 c :: shEL r
def shEO : Ob → Ob
  | .mem cs => .mem (shEL cs)
  | .vir cs => .vir (shEL cs)
def shEG : List (Nat × Ob) → List (Nat × Ob)
  | [] => []
  | (i, o) :: r => (i, shEO o) :: shEG r
theorem shEG_lk : ∀ (l : List (Nat × Ob)) (i : Nat), lk (shEG l) i = (lk l i).map shEO
  | [], i => rfl
  | (a, o) :: r, i => by
    simp only [shEG, lk]
    split
    · rfl
    · exact shEG_lk r i
theorem shEL_get : ∀ (cs : List Cell) (c : Nat), (shEL cs)[c]? = (cs[c]?).map shE1
  | [], c => by simp [shEL]
  | x :: r, 0 => by simp [shEL]
  | x :: r, c + 1 => by simp [shEL, shEL_get r c]
theorem shEL_length : ∀ (cs : List Cell), (shEL cs).length = cs.length
  | [] => rfl
  | x :: r => by simp [shEL, shEL_length r]
theorem shEO_cells (o : Ob) : (shEO o).cells = shEL o.cells := by cases o <;> rfl
theorem shE1_some {c : Cell} {k st : Nat} {ds : List Cell} (h : shE1 c = .sl (some k) st ds) : c = .sl (some k) st ds := by
  unfold shE1 at h
  split at h
  · cases h
  · exact h
theorem shE1_of {k st i : Nat} {ds : List Cell} (hst : (i + 1) * st ≤ ds.length) (h0 : 0 < st) : shE1 (.sl (some k) st ds) = .sl (some k) st ds := by
  unfold shE1
  split
  · rename_i s he
    cases he
    have h2 := Nat.mul_pos (Nat.succ_pos i) h0
    rw [List.length_nil] at hst
    exact absurd h2 (by rw [Nat.succ_eq_add_one]; omega)
  · rfl
section
variable {w : World} {A : Nat → Prop} {hv : Nat → Value} {C : Cx} {X : St} {a : Act} {L : Nat → Loc} {G : Nat → List Nat} {K : List Item}
theorem RepL.shE : ∀ {cs : List Cell} {vs : List Value} {F : List Nat}, RepL w A hv cs vs F → ∃ F', F'.Sublist F ∧ RepL w A hv (shEL cs) vs F'
  | [], vs, F, h => ⟨F, List.Sublist.refl _, h⟩
  | c :: r, vs, F, h => by
    obtain ⟨v, us, F1, F2, rfl, rfl, h1, h2⟩ := h
    obtain ⟨F2', k1, k2⟩ := RepL.shE h2
    by_cases hc : ∃ s, c = .sl (some 0) s []
    · obtain ⟨s, rfl⟩ := hc
      refine ⟨[] ++ F2', List.Sublist.append (List.nil_sublist _) k1, v, us, [], F2', rfl, rfl, ?_, k2⟩
      obtain ⟨base, len, cap, rfl, hs, hl, hcp, hm, hb⟩ := h1
      refine ⟨base, len, cap, rfl, hs, hl, hcp, (fun n hn => nomatch hn), ?_⟩
      cases base with
      | none => exact ⟨hb.1, rfl⟩
      | some ad =>
        obtain ⟨hsp, vs, G, hR, hcell, hk⟩ := hb
        obtain ⟨rfl, rfl⟩ := hR
        exact ⟨fun hx => hx.elim (fun hx => absurd rfl hx) (fun hx => absurd rfl hx), [], [], ⟨rfl, rfl⟩, hcell, rfl, rfl, fun hx => absurd rfl hx⟩
    · have : shE1 c = c := by
        unfold shE1
        split
        · rename_i s; exact absurd ⟨s, rfl⟩ hc
        · rfl
      refine ⟨F1 ++ F2', List.Sublist.append (List.Sublist.refl _) k1, v, us, F1, F2', rfl, rfl, ?_, k2⟩
      rw [this]
      exact h1
theorem ObRep.shE {l : Loc} {o : Ob} {F : List Nat} (h : ObRep w A hv l o F) : ∃ F', F'.Sublist F ∧ ObRep w A hv l (shEO o) F' := by
  cases l with
  | blk b => cases o with
    | mem cs =>
      obtain ⟨c, e, g, h1, h2, rfl⟩ := h
      obtain ⟨g', k1, k2⟩ := h2.shE
      exact ⟨b :: g', k1.cons_cons b, c, e, g', h1, k2, rfl⟩
    | vir cs => exact h.elim
  | vals vs => cases o with
    | mem cs => exact h.elim
    | vir cs =>
      obtain ⟨F', k1, k2⟩ := RepL.shE (show RepL w A hv cs vs F from h)
      exact ⟨F', k1, k2⟩
theorem Wk.shE {l : Loc} {o : Ob} {F : List Nat} (h : ObRep w A hv l o F) : Wk (shEO o) o := by
  obtain ⟨vs0, g0, hR0, _, _, _⟩ := h.root
  intro q rs' hq
  rw [shEO_cells] at hq
  cases q with
  | none =>
    cases hq
    exact ⟨o.cells, rfl, by rw [shEL_length], fun w l s hs => hs⟩
  | some ci =>
    obtain ⟨c, i⟩ := ci
    simp only [row] at hq
    split at hq
    · rename_i k st ds hc
      split at hq
      · rename_i hle
        cases hq
        rw [shEL_get] at hc
        cases hx : o.cells[c]? with
        | none => rw [hx] at hc; cases hc
        | some x =>
          rw [hx] at hc
          have hx2 := shE1_some (Option.some.inj hc)
          subst hx2
          refine ⟨_, by simp only [row, hx]; exact if_pos hle, rfl, fun w l s hs => ?_⟩
          obtain ⟨k', st', ds', ad, len, cap, h1, h2, h3⟩ := hs
          refine ⟨k', st', ds', ad, len, cap, ?_, h2, h3⟩
          rw [hx] at h1
          cases h1
          rw [shEO_cells, shEL_get, hx]
          show some (shE1 _) = _
          rw [Option.some.inj hc]
      · cases hq
    · cases hq
/-- So told. -/
theorem Sim.shE (h : Sim C X a w L G) : ∃ G', Sim C { X with sg := shEG X.sg } a w L G' := by
  have hG : ∀ i, ∃ F', F'.Sublist (G i) ∧ (∀ o, lk X.sg i = some o → ObRep w (C.A G) C.hv (L i) (shEO o) F') := by
    intro i
    cases hi : lk X.sg i with
    | none => exact ⟨G i, List.Sublist.refl _, fun o ho => nomatch ho⟩
    | some o =>
      obtain ⟨F', k1, k2⟩ := (h.ob i o hi).shE
      exact ⟨F', k1, fun o' ho' => by cases ho'; exact k2⟩
  let G' : Nat → List Nat := fun i => Classical.choose (hG i)
  have g1 : ∀ i, (G' i).Sublist (G i) := fun i => (Classical.choose_spec (hG i)).1
  have g2 : ∀ i o, lk X.sg i = some o → ObRep w (C.A G) C.hv (L i) (shEO o) (G' i) := fun i => (Classical.choose_spec (hG i)).2
  have hA : ∀ b, C.A G b → C.A G' b := fun b hb => ⟨hb.1, fun i hi => hb.2 i ((g1 i).mem hi)⟩
  refine ⟨G', { ob := fun i o hi => ?_, no := fun i hi => ?_, nd := fun i => (g1 i).nodup (h.nd i), dj := fun i j b hi hj => h.dj i j b ((g1 i).mem hi) ((g1 j).mem hj), own := fun i b hi => h.own i b ((g1 i).mem hi), en := fun t x hx => ?_, rf := fun t x hx i hi => ?_, fr := h.fr, df := h.df, fx := h.fx, nt := h.nt }⟩
  · have hi' : lk (shEG X.sg) i = some o := hi
    rw [shEG_lk] at hi'
    cases hx : lk X.sg i with
    | none => rw [hx] at hi'; cases hi'
    | some o0 =>
      rw [hx] at hi'
      cases hi'
      exact (g2 i o0 hx).frame (fun _ _ _ => rfl) (fun b _ hb => hA b hb)
  · have hi' : lk (shEG X.sg) i = none := hi
    rw [shEG_lk] at hi'
    cases hx : lk X.sg i with
    | none => exact List.sublist_nil.1 (h.no i hx ▸ g1 i)
    | some o0 => rw [hx] at hi'; cases hi'
  · refine RepT.frame (fun b _ hb => ⟨hA b hb, rfl⟩) h.ob x _ (h.en t x hx) (fun i hi o' ho' => ?_)
    have ho2 : lk (shEG X.sg) i = some o' := ho'
    rw [shEG_lk] at ho2
    cases hx2 : lk X.sg i with
    | none => rw [hx2] at ho2; cases ho2
    | some o0 =>
      rw [hx2] at ho2
      cases ho2
      exact ⟨o0, rfl, rfl, fun cs e => by cases o0 <;> simp [shEO] at e; exact ⟨_, rfl⟩, .inr (.inr ⟨Wk.shE (h.ob i o0 hx2), fun _ _ => rfl⟩)⟩
  · show lk (shEG X.sg) i ≠ none
    rw [shEG_lk]
    have := h.rf t x hx i hi
    cases hx2 : lk X.sg i with
    | none => exact absurd hx2 this
    | some o0 => simp
theorem Ok.shE {X' : St} (e : BS ({ X with sg := shEG X.sg } = X')) (h : Ok C K X') : Ok C K X := by
  intro a w hi cs
  obtain ⟨L, G, hs⟩ := hi
  obtain ⟨G', hs'⟩ := hs.shE
  exact h a w (e.out ▸ ⟨L, G', hs'⟩) cs
end
attribute [go_sem] shEG shEO shEL shE1
end Go.Proofs.Ytppfilhlblnmcaa.Abs
/- An abstract machine for the walks, part 44: a drawn region with makings that no order binds: a tree of ways. No condition. -/
set_option linter.unusedVariables false
namespace Go.Proofs.Ytppfilhlblnmcaa.Abs
open Go
/-- As goD, on to Q. -/
def goP (an : An) (C : Cx) (ops : Array Oper) (Q : St → Prop) : List (Nat × Option (List Nat)) → St → Prop
  | [], X => Q X
  | (i, p) :: r, X => match ops[i]? with
    | none => False
    | some o => match want X ops o with
      | none => False
      | some false => match o.dst with
        | some d => d ∉ C.fx ∧ d < C.nt ∧ (∀ j ∈ p.getD [], StabD C ops { X with env := ins X.env d uT } j) ∧ goP an C ops Q r { X with env := ins X.env d uT }
        | none => False
      | some true => match p with
        | none => match o.dst with
          | some d => d ∉ C.fx ∧ d < C.nt ∧ match evV C.P X o with
            | some t => goP an C ops Q r { X with env := ins X.env d t }
            | none => False
          | none => False
        | some q => match isCall o.op with
          | true => CallR an C X o (100 + 8 * i) (fun Y => (∀ j ∈ q, StabD C ops Y j) ∧ goP an C ops Q r Y)
          | false => match act1 C.P C.nt C.fx X o (100 + 8 * i) with
            | some Y => (∀ j ∈ q, StabD C ops Y j) ∧ goP an C ops Q r Y
            | none => False
def goPK (an : An) (C : Cx) (ops : Array Oper) (Q : St → Prop) (q : List Nat) (r : List (Nat × Option (List Nat))) (i : Nat) (d : Option Tmp) (fid : FuncId) (args : List Arg) (l m : List Nat) (X : St) : Prop := ∃ (res : List (Bool × List Cell)) (outs : List Arg) (X' : St), ACalls C.P fid args res outs ∧ after C.nt C.fx X args outs l m res (100 + 8 * i) d = some X' ∧ (∀ j ∈ q, StabD C ops X' j) ∧ goP an C ops Q r X'
def goPQ (an : An) (C : Cx) (ops : Array Oper) (Q : St → Prop) (q : List Nat) (r : List (Nat × Option (List Nat))) (i : Nat) (o : Oper) (b : Bool) (X : St) : Prop := ops[i]? = some o → want X ops o = some b → goP an C ops Q ((i, some q) :: r) X
section
variable {an : An} {C : Cx} {P : Program} {nt : Nat} {fx : List Nat} {X X' : St} {ops : Array Oper} {Q : St → Prop}
theorem goP.run : ∀ (l : List (Nat × Option (List Nat))) (X : St), goP an C ops Q l X → ∃ X', RunD an C ops l X X' ∧ Q X'
  | [], X, h => ⟨X, rfl, h⟩
  | (i, p) :: r, X, h => by
    unfold goP at h
    split at h
    · exact h.elim
    · rename_i o ho
      split at h
      · exact h.elim
      · rename_i hw
        split at h
        · rename_i d hd
          obtain ⟨hfx, hnt, hst, h⟩ := h
          obtain ⟨X', h1, h2⟩ := goP.run r _ h
          cases p with
          | none => exact ⟨X', ⟨o, d, ho, hd, hfx, hnt, .inl ⟨hw, h1⟩⟩, h2⟩
          | some q => exact ⟨X', ⟨o, _, ho, .skip hw hd hfx hnt, hst, h1⟩, h2⟩
        · exact h.elim
      · rename_i hw
        split at h
        · split at h
          · rename_i d hd
            obtain ⟨hfx, hnt, h⟩ := h
            split at h
            · rename_i t ht
              obtain ⟨X', h1, h2⟩ := goP.run r _ h
              exact ⟨X', ⟨o, d, ho, hd, hfx, hnt, .inr ⟨hw, t, ht, h1⟩⟩, h2⟩
            · exact h.elim
          · exact h.elim
        · rename_i q
          split at h
          · obtain ⟨Y, q1, q5, q6⟩ | ⟨f, xs, ts, fid, args, outs, l, m, res, Y, q1, q2, q3, q4, q5, q6⟩ := h
            · obtain ⟨X', h1, h2⟩ := goP.run r _ q6
              exact ⟨X', ⟨o, Y, ho, .sem hw q1, q5, h1⟩, h2⟩
            obtain ⟨X', h1, h2⟩ := goP.run r _ q6
            exact ⟨X', ⟨o, Y, ho, .call hw q1 q2 q3 q4, q5, h1⟩, h2⟩
          · split at h
            · rename_i Y hY
              obtain ⟨hst, h⟩ := h
              obtain ⟨X', h1, h2⟩ := goP.run r _ h
              exact ⟨X', ⟨o, Y, ho, .step hw hY, hst, h1⟩, h2⟩
            · exact h.elim
theorem goP.vs (hP : C.P = P) (hn : C.nt = nt) (hx : C.fx = fx) {r : List (Nat × Option (List Nat))} : ∀ (l : List Nat) {X X' : St}, evD P nt fx ops l X = some X' → goP an C ops Q r X' → goP an C ops Q (noneL l ++ r) X
  | [], X, X', e, h => by cases e; exact h
  | i :: l, X, X', e, h => by
    unfold evD at e
    show goP an C ops Q ((i, none) :: (noneL l ++ r)) X
    unfold goP
    cases ho : ops[i]? with
    | none => rw [ho] at e; cases e
    | some o =>
      rw [ho] at e
      simp only at e ⊢
      cases hd : o.dst with
      | none => rw [hd] at e; cases e
      | some d =>
        rw [hd] at e
        simp only at e ⊢
        split at e
        · rename_i hc
          rw [← hx, ← hn] at hc
          split at e
          · cases e
          · rename_i hw
            rw [hw]
            exact ⟨hc.1, hc.2, (fun j hj => nomatch hj), goP.vs hP hn hx l e h⟩
          · rename_i hw
            rw [hw]
            simp only
            refine ⟨hc.1, hc.2, ?_⟩
            split at e
            · rename_i t ht
              rw [hP, ht]
              exact goP.vs hP hn hx l e h
            · cases e
        · cases e
theorem goP.c (hP : C.P = P) (hn : C.nt = nt) (hx : C.fx = fx) {i : Nat} {q : List Nat} {r : List (Nat × Option (List Nat))} {o : Oper} {f : Operand} {xs : Array Operand} {ts : Array TypeId} {fid : FuncId} {args outs : List Arg} {l m : List Nat} {res : List (Bool × List Cell)} (ho : ops[i]? = some o) (hop : o.op = .call { callee := .value f, args := xs, argTypes := ts }) (hw : want X ops o = some true) (hp : prep an X f xs.toList = some (fid, args, l, m)) (hc : ACalls P fid args res outs)
    (ha : after nt fx X args outs l m res (100 + 8 * i) o.dst = some X') (hq : ∀ j ∈ q, StabD C ops X' j) (h : goP an C ops Q r X') : goP an C ops Q ((i, some q) :: r) X := by
  unfold goP
  rw [ho]
  have hic : isCall o.op = true := by rw [hop]; rfl
  simp only [hw, hic]
  exact .inr ⟨f, xs, ts, fid, args, outs, l, m, res, X', hop, hp, hP ▸ hc, by rw [hn, hx]; exact ha, hq, h⟩
theorem goP.w (hP : C.P = P) (hn : C.nt = nt) (hx : C.fx = fx) {i : Nat} {q : List Nat} {r : List (Nat × Option (List Nat))} {o : Oper} (ho : ops[i]? = some o) (hic : isCall o.op = false) (hw : want X ops o = some true) (e : act1 P nt fx X o (100 + 8 * i) = some X') (hq : ∀ j ∈ q, StabD C ops X' j) (h : goP an C ops Q r X') : goP an C ops Q ((i, some q) :: r) X := by
  unfold goP
  rw [ho]
  simp only [hw, hic]
  rw [hP, hn, hx, e]
  exact ⟨hq, h⟩
theorem goP.n (hP : C.P = P) (hn : C.nt = nt) (hx : C.fx = fx) {l : List Nat} {r : List (Nat × Option (List Nat))} (e : BN (evW P nt fx ops l X (fun Y => Y = X'))) (h : goP an C ops Q r X') : goP an C ops Q (noneL l ++ r) X := by
  replace e := e.out
  obtain ⟨_, e, rfl⟩ := e
  exact goP.vs hP hn hx l e h
theorem goP.q {i : Nat} {q : List Nat} {r : List (Nat × Option (List Nat))} {o : Oper} {b : Bool} (hg : BR (callAt ops i = true)) (ho : BG (ops[i]? = some o)) (hw : BW (want X ops o = some b)) (h : goPQ an C ops Q q r i o b X) : goP an C ops Q ((i, some q) :: r) X := h ho.out hw.out
theorem goPQ.t (hP : C.P = P) {i : Nat} {q : List Nat} {r : List (Nat × Option (List Nat))} {o : Oper} {f : Operand} {xs : Array Operand} {ts : Array TypeId} {d : Option Tmp} {fid : FuncId} {args : List Arg} {l m : List Nat} (hop : BR (o.op = .call { callee := .value f, args := xs, argTypes := ts })) (hd : BR (o.dst = d)) (hp : BS (prep an X f xs.toList = some (fid, args, l, m))) (h : goPK an C ops Q q r i d fid args l m X) : goPQ an C ops Q q r i o true X := by
  intro ho hw
  obtain ⟨res, outs, X', h1, h2, h3, h4⟩ := h
  exact goP.c rfl rfl rfl ho hop.out hw hp.out h1 (hd.out ▸ h2) h3 h4
theorem goPQ.f (hP : C.P = P) (hn : C.nt = nt) (hx : C.fx = fx) {i : Nat} {q : List Nat} {r : List (Nat × Option (List Nat))} {o : Oper} {d : Nat} (hd : BR (o.dst = some d)) (hf : BR ((fx.contains d || !Nat.blt d nt) = false)) (e : BE (({ X with env := ins X.env d uT } : St) = X')) (hq : BQ (stabE P nt fx ops X' q)) (h : goP an C ops Q r X') : goPQ an C ops Q q r i o false X := by
  intro ho hw
  unfold goP
  rw [ho]
  simp only [hw, hd.out]
  exact ⟨hx ▸ (nin hf.out).1, hn ▸ (nin hf.out).2, by rw [e.out]; exact stabE_ok hP hn hx hq.out, by rw [e.out]; exact h⟩
theorem goPK.k (hP : C.P = P) (hn : C.nt = nt) (hx : C.fx = fx) {i : Nat} {q : List Nat} {r : List (Nat × Option (List Nat))} {d : Option Tmp} {fid : FuncId} {args outs : List Arg} {l m : List Nat} {res : List (Bool × List Cell)} (hc : ACalls P fid args res outs) (ha : BS (after nt fx X args outs l m res (100 + 8 * i) d = some X')) (hq : BQ (stabE P nt fx ops X' q)) (h : goP an C ops Q r X') : goPK an C ops Q q r i d fid args l m X :=
  ⟨res, outs, X', hP ▸ hc, by rw [hn, hx]; exact ha.out, stabE_ok hP hn hx hq.out, h⟩
theorem goP.x (hP : C.P = P) (hn : C.nt = nt) (hx : C.fx = fx) {i : Nat} {q : List Nat} {r : List (Nat × Option (List Nat))} {o : Oper} (hg : BR (callAt ops i = false)) (ho : BG (ops[i]? = some o)) (hic : BR (isCall o.op = false)) (hw : BW (want X ops o = some true)) (e : BS (act1 P nt fx X o (100 + 8 * i) = some X')) (hq : BQ (stabE P nt fx ops X' q)) (h : goP an C ops Q r X') : goP an C ops Q ((i, some q) :: r) X := goP.w hP hn hx ho.out hic.out hw.out e.out (stabE_ok hP hn hx hq.out) h
theorem goP.z (h : Q X) : goP an C ops Q [] X := h
end
/-- The ways through a drawn region: done ahead; or one of those that may come, each with its own way on. -/
inductive PT where
  | z | x
  | e (i : Nat) (t : PT)
  | m (k : Nat) (q : List Nat) (t a : PT)
def goT (an : An) (C : Cx) (ops : Array Oper) (K : List Item) : PT → St → Prop
  | .z, X => Ok C K X
  | .x, _ => True
  | .e i t, X => goP an C ops (goT an C ops K t) [(i, none)] X
  | .m k q t a, X => goP an C ops (goT an C ops K t) [(k, some q)] X ∧ goT an C ops K a X
def PT.heads : PT → List Nat
  | .m k _ _ a => k :: a.heads
  | _ => []
def checkT (ops : Array Oper) (es : List Nat) : Bool → PT → List Nat → List Nat → List Nat → Bool
  | _, .z, _, _, rem => rem.isEmpty
  | b, .x, _, _, _ => !b
  | _, .e i t, before, pend, rem => es.contains i && rem.contains i && !before.contains i && (predsD ops i).all before.contains && checkT ops es true t (i :: before) (i :: pend) (rem.erase i)
  | b, .m k q t a, before, pend, rem => (!b || rem.all fun j => (predsD ops j).any rem.contains || (k :: a.heads).contains j) && rem.contains k && (predsD ops k).all before.contains && q.all pend.contains && (pend.all fun j => (ancD ops (predsD ops k) pend).contains j || q.contains j) && checkT ops es true t (k :: before) q (rem.erase k) && checkT ops es false a before pend rem
/-- An order of all. -/
def topD (ops : Array Oper) : List Nat → List Nat → Bool
  | _, [] => true
  | before, i :: r => decide (i < ops.size) && (predsD ops i).all before.contains && !before.contains i && topD ops (i :: before) r
def drawT (ops : Array Oper) (es l : List Nat) (t : PT) : Bool :=
  l.length == ops.size && topD ops [] l && pairsD ops es l && Region.noSelect ops && (List.range ops.size).all l.contains && checkT ops es true t [] [] l
section
variable {an : An} {C : Cx} {X X' Y Y' : St} {ops : Array Oper} {a b : Act} {w : World} {o : Oper} {l es : List Nat} {K : List Item}
theorem rem_map (rem : List Nat) : (rem.map fun i => (i, (none : Option (List Nat)))).map (·.1) = rem := by
  rw [List.map_map]
  exact List.map_id _
theorem draw_pend' (hD : DrawS ops l es) {fuel : Nat} {rem before pend S : List Nat} {listed : Array Bool} {Q : Exit → Act → World → Prop}
    (hSe : ∀ j ∈ S, j ∈ es) (ih : ∀ (S : List Nat) (listed : Array Bool) (a b : Act) (w : World), (∀ j ∈ S, j ∈ es) → In C Y b w → Agree (S.flatMap (dstD ops)) a b → Due ops l before pend S rem listed → (∀ j ∈ S, StabD C ops Y j) → S.length + rem.length = fuel → wpAny C.P .any ops Q fuel listed a w)
    (hb : In C Y b w) (hA : Agree (S.flatMap (dstD ops)) a b) (h : Due ops l before pend S rem listed) (hst : ∀ j ∈ S, StabD C ops Y j) (hf : S.length + rem.length = fuel + 1) (hout : ∀ i ∈ S, i ∉ rem)
    {i : Nat} (hi : i ∈ S) (hlt : i < ops.size) (hp : ∀ p ∈ predsD ops i, p ∉ S ∧ p ∉ rem) : wpOp C.P ops Q i (wpAny C.P .any ops Q fuel (listed.setIfInBounds i true)) a w := by
  have e := rem_map rem
  refine draw_pend (r := rem.map fun i => (i, none)) hD hSe ?_ hb hA (by rw [e]; exact h) hst (by rw [List.length_map]; exact hf) (by rw [e]; exact hout) hi hlt (by rw [e]; exact hp)
  intro S listed a b w h0 h1 h2 h3 h4 h5
  rw [e] at h3
  rw [List.length_map] at h5
  exact ih S listed a b w h0 h1 h2 h3 h4 h5

theorem alt_of : ∀ (t : PT) {top : Bool} {before pend rem : List Nat} {X : St}, checkT ops es top t before pend rem = true → goT an C ops K t X → ∀ k ∈ t.heads, ∃ q t', goP an C ops (goT an C ops K t') [(k, some q)] X ∧ k ∈ rem ∧ (∀ p ∈ predsD ops k, p ∈ before) ∧ (∀ j ∈ q, j ∈ pend) ∧ (∀ j ∈ pend, j ∈ ancD ops (predsD ops k) pend ∨ j ∈ q) ∧ checkT ops es true t' (k :: before) q (rem.erase k) = true
  | .z, _, _, _, _, _, _, _, k, hk => nomatch hk
  | .x, _, _, _, _, _, _, _, k, hk => nomatch hk
  | .e _ _, _, _, _, _, _, _, _, k, hk => nomatch hk
  | .m k q t a, top, before, pend, rem, X, hc, hg, k', hk => by
    unfold checkT at hc
    simp only [Bool.and_eq_true] at hc
    obtain ⟨⟨⟨⟨⟨⟨_, h1⟩, h2⟩, h3⟩, h4⟩, h5⟩, h6⟩ := hc
    obtain ⟨g1, g2⟩ := hg
    rcases List.mem_cons.1 hk with rfl | hk
    · refine ⟨q, t, g1, List.contains_iff_mem.1 h1, fun p hp => List.contains_iff_mem.1 (List.all_eq_true.1 h2 p hp), fun p hp => List.contains_iff_mem.1 (List.all_eq_true.1 h3 p hp), fun j hj => ?_, h5⟩
      have := List.all_eq_true.1 h4 j hj
      rw [Bool.or_eq_true] at this
      exact this.imp List.contains_iff_mem.1 List.contains_iff_mem.1
    · exact alt_of a h6 g2 k' hk

theorem draw_T (hD : DrawS ops l es) : ∀ (fuel : Nat) (t : PT) (before pend rem S : List Nat) (listed : Array Bool) (Y : St) (a b : Act) (w : World), (∀ j ∈ S, j ∈ es) → checkT ops es true t before pend rem = true → (∀ j ∈ rem, j ∉ before) → rem.Nodup → goT an C ops K t Y → In C Y b w → Agree (S.flatMap (dstD ops)) a b → Due ops l before pend S rem listed → (∀ j ∈ S, StabD C ops Y j) → S.length + rem.length = fuel →
    wpAny C.P .any ops (fun e a w => e = .normal ∧ ∃ X', Ok C K X' ∧ In C X' a w) fuel listed a w := by
  intro fuel
  induction fuel with
  | zero =>
    intro t before pend rem S listed Y a b w hSe hc hrb hnd hg hi hA h hst hf
    have hr0 : rem = [] := List.eq_nil_of_length_eq_zero (by omega)
    have hS0 : S = [] := List.eq_nil_of_length_eq_zero (by omega)
    subst hr0 hS0
    refine ⟨?_, rfl, Y, ?_, ?_⟩
    · rw [List.eq_nil_iff_forall_not_mem]
      intro i hi'
      have := ((h.ready hD.all hD.lt).1 hi').2.1
      simp at this
    · cases t with
      | z => exact hg
      | x => simp [checkT] at hc
      | e i t => simp [checkT] at hc
      | m k q t a => simp [checkT] at hc
    · rw [← hA.nil]
      exact hi
  | succ fuel ih =>
    intro t
    induction t with
    | z =>
      intro before pend rem S listed Y a b w hSe hc hrb hnd hg hi hA h hst hf
      have hr0 : rem = [] := List.isEmpty_iff.1 hc
      subst hr0
      have hne : S ≠ [] := fun e => by subst e; simp at hf
      obtain ⟨s, hs⟩ := List.exists_mem_of_ne_nil S hne
      refine ⟨fun hn => absurd hn (h.some hD (.inl hs)), fun i hi' => ?_⟩
      obtain ⟨hlt, hSr, hp⟩ := (h.ready hD.all hD.lt).1 hi'
      have hS : i ∈ S := hSr.resolve_right (by simp)
      exact draw_pend' hD hSe (fun S listed a b w h0 h1 h2 h3 h4 h5 => ih .z before pend [] S listed Y a b w h0 hc hrb hnd hg h1 h2 h3 h4 h5) hi hA h hst hf (fun i _ => by simp) hS hlt hp
    | x =>
      intro before pend rem S listed Y a b w hSe hc
      simp [checkT] at hc
    | e i t iht =>
      intro before pend rem S listed Y a b w hSe hc hrb hnd hg hi hA h hst hf
      have hc0 := hc
      have hg0 := hg
      unfold checkT at hc
      simp only [Bool.and_eq_true, Bool.not_eq_true'] at hc
      obtain ⟨⟨⟨⟨hie, hir⟩, hib⟩, hpre⟩, hc⟩ := hc
      have hie : i ∈ es := List.contains_iff_mem.1 hie
      have hir : i ∈ rem := List.contains_iff_mem.1 hir
      have hib : i ∉ before := fun hc => by rw [List.contains_iff_mem.2 hc] at hib; cases hib
      have hpre : ∀ p ∈ predsD ops i, p ∈ before := fun p hp => List.contains_iff_mem.1 (List.all_eq_true.1 hpre p hp)
      have hSr : ∀ j ∈ S, j ∉ rem := fun j hj hc => hrb j hc (h.bef j (h.sub j hj))
      have hme : ∀ j, j ∈ rem.erase i ↔ j ≠ i ∧ j ∈ rem := fun j => List.Nodup.mem_erase_iff hnd
      obtain ⟨Y', hrun, hg⟩ := goP.run _ _ hg
      obtain ⟨o, d, hoi, hd, hfx, hnt, hr⟩ := hrun
      have hil : i ∈ l := h.rl i hir
      have hSe' : ∀ j ∈ i :: S, j ∈ es := fun j hj => by
        rcases List.mem_cons.1 hj with rfl | hj
        · exact hie
        · exact hSe j hj
      have hdl : dstD ops i = [d] := dstD_some hoi hd
      have hDue : Due ops l (i :: before) (i :: pend) (i :: S) (rem.erase i) listed :=
        { sub := fun j hj => by
            rcases List.mem_cons.1 hj with rfl | hj
            · simp
            · exact List.mem_cons_of_mem _ (h.sub j hj)
          bef := fun j hj => by
            rcases List.mem_cons.1 hj with rfl | hj
            · simp
            · exact List.mem_cons_of_mem _ (h.bef j hj)
          bp := fun j hj p hp => by
            rcases List.mem_cons.1 hj with rfl | hj
            · exact List.mem_cons_of_mem _ (hpre p hp)
            · exact List.mem_cons_of_mem _ (h.bp j hj p hp)
          pl := fun j hj => by
            rcases List.mem_cons.1 hj with rfl | hj
            · exact hil
            · exact h.pl j hj
          rl := fun j hj => h.rl j ((hme j).1 hj).2
          nd := List.nodup_cons.2 ⟨fun hc => hSr i hc hir, h.nd⟩
          li := fun j hj => by
            rw [h.li j hj, hme j, List.mem_cons]
            constructor
            · rintro (h1 | h1)
              · exact .inl (.inr h1)
              · by_cases e : j = i
                · exact .inl (.inl e)
                · exact .inr ⟨e, h1⟩
            · rintro ((h1 | h1) | h1)
              · exact .inr (h1 ▸ hir)
              · exact .inl h1
              · exact .inr h1.2
          sz := h.sz
          dn := fun j hj k hk hjk => by
            have := h.dn j (by
              rw [hme j, List.mem_cons] at hj
              rcases hj with (h1 | h1) | h1
              · exact .inr (h1 ▸ hir)
              · exact .inl h1
              · exact .inr h1.2) k hk hjk
            rw [hme k, List.mem_cons]
            rcases this with h1 | h1
            · exact .inl (.inr h1)
            · by_cases e : k = i
              · exact .inl (.inl e)
              · exact .inr ⟨e, h1⟩ }
      have hni : i ∉ predsD ops i := fun hc => hib (hpre i hc)
      have hself : d ∉ looksD ops i := fun hc => hni ((hD.pr i hie i hil d (by rw [hdl]; simp)).1 hc)
      have hother : ∀ j ∈ S, d ∉ looksD ops j ∧ d ∉ dstD ops j := fun j hj => by
        have hjl := h.pl j (h.sub j hj)
        have hne : i ≠ j := fun e => hSr j hj (e ▸ hir)
        obtain ⟨k1, k2⟩ := hD.pr i hie j hjl d (by rw [hdl]; simp)
        refine ⟨fun hc => ?_, k2 hne⟩
        exact hib (h.bp j (h.bef j (h.sub j hj)) i (k1 hc))
      have hlen : (i :: S).length + (rem.erase i).length = fuel + 1 := by
        rw [List.length_erase_of_mem hir]
        have := List.length_pos_of_mem hir
        simp only [List.length_cons] at hf ⊢
        omega
      have hrb' : ∀ j ∈ rem.erase i, j ∉ i :: before := fun j hj hc => by
        have h1 := (hme j).1 hj
        rcases List.mem_cons.1 hc with e | hc
        · exact h1.1 e
        · exact hrb j h1.2 hc
      have hAg : ∀ v, Agree ((i :: S).flatMap (dstD ops)) a (b.put (some d) v) := fun v => by
        rw [List.flatMap_cons, hdl]
        exact hA.due v
      have hstS : ∀ Y' : St, Y'.sg = Y.sg → (∀ t, d ≠ t → lk Y'.env t = lk Y.env t) → ∀ j ∈ S, StabD C ops Y' j := fun Y' hs he j hj =>
        (hst j hj).keep hs (fun t ht => he t (fun e => (hother j hj).1 (e ▸ ht))) (fun t ht => he t (fun e => (hother j hj).2 (e ▸ ht)))
      rw [looksD_some hoi] at hself
      obtain ⟨L, G, hi⟩ := hi
      rcases hr with ⟨hw, hr⟩ | ⟨hw, t, he, hr⟩
      · cases hr
        have hlk : ∀ t, d ≠ t → lk (ins Y.env d uT) t = lk Y.env t := fun t ht => by rw [lk_ins, if_neg ht]
        refine iht (i :: before) (i :: pend) (rem.erase i) (i :: S) listed _ a _ w hSe' hc hrb' (hnd.erase i) hg ⟨L, G, hi.left hnt hfx⟩ (hAg undef) hDue (fun j hj => ?_) hlen
        rcases List.mem_cons.1 hj with rfl | hj
        · unfold StabD
          rw [hoi]
          simp only [hd]
          refine ⟨hfx, hnt, ?_⟩
          rw [want_congr (Y := Y) (fun t ht => hlk t (fun e => hself (e ▸ ht))), hw]
          simp only [lk_ins, if_true]
        · exact hstS { Y with env := ins Y.env d uT } rfl hlk j hj
      · cases hr
        have hlk : ∀ u, d ≠ u → lk (ins Y.env d t) u = lk Y.env u := fun u hu => by rw [lk_ins, if_neg hu]
        obtain ⟨v, h1, h2, h3⟩ := hi.yV he
        refine iht (i :: before) (i :: pend) (rem.erase i) (i :: S) listed _ a _ w hSe' hc hrb' (hnd.erase i) hg ⟨L, G, hi.put hnt hfx h2 h3⟩ (hAg v) hDue (fun j hj => ?_) hlen
        rcases List.mem_cons.1 hj with rfl | hj
        · unfold StabD
          rw [hoi]
          simp only [hd]
          refine ⟨hfx, hnt, ?_⟩
          rw [want_congr (Y := Y) (fun t ht => hlk t (fun e => hself (e ▸ ht))), hw]
          simp only
          refine ⟨t, ?_, by rw [lk_ins, if_pos rfl]⟩
          rw [evV_keep (Y' := { Y with env := ins Y.env d t }) (Y := Y) (ops := ops) rfl (fun u hu => hlk u (fun e => hself (e ▸ hu)))]
          exact he
        · exact hstS { Y with env := ins Y.env d t } rfl hlk j hj
    | m k0 q0 t0 a0 _ _ =>
      intro before pend rem S listed Y a b w hSe hc hrb hnd hg hi hA h hst hf
      have halt := alt_of (K := K) _ hc hg
      have hSr : ∀ j ∈ S, j ∉ rem := fun j hj hc => hrb j hc (h.bef j (h.sub j hj))
      have hcov : ∀ j ∈ rem, (∀ p ∈ predsD ops j, p ∉ rem) → j ∈ (PT.m k0 q0 t0 a0).heads := by
        unfold checkT at hc
        simp only [Bool.and_eq_true, Bool.not_true, Bool.false_or] at hc
        intro j hj hp
        have := List.all_eq_true.1 hc.1.1.1.1.1.1 j hj
        rw [Bool.or_eq_true] at this
        rcases this with h1 | h1
        · obtain ⟨p, hp1, hp2⟩ := List.any_eq_true.1 h1
          exact absurd (List.contains_iff_mem.1 hp2) (hp p hp1)
        · exact List.contains_iff_mem.1 h1
      have hk0 : k0 ∈ rem := by
        obtain ⟨_, _, _, h1, _⟩ := halt k0 (by simp [PT.heads])
        exact h1
      refine ⟨fun hn => absurd hn (h.some hD (.inr hk0)), fun k hk => ?_⟩
      obtain ⟨hlt, hSk, hp⟩ := (h.ready hD.all hD.lt).1 hk
      by_cases hkS : k ∈ S
      · exact draw_pend' hD hSe (fun S listed a b w h0 h1 h2 h3 h4 h5 => ih _ before pend rem S listed Y a b w h0 hc hrb hnd hg h1 h2 h3 h4 h5) hi hA h hst hf hSr hkS hlt hp
      have hkr : k ∈ rem := hSk.resolve_left hkS
      obtain ⟨q, t, hgo, _, hpre, hqp, hanc, hck⟩ := halt k (hcov k hkr (fun p hp' => (hp p hp').2))
      obtain ⟨Z, hrun, hgt⟩ := goP.run _ _ hgo
      obtain ⟨o, Z', hoi, hone, hq, hz⟩ := hrun
      cases hz
      have hSq : ∀ j ∈ S, j ∈ q := fun j hj => by
        refine (hanc j (h.sub j hj)).resolve_left (fun hc => ?_)
        exact ancD_done (p := fun x => x ∉ S ∧ x ∉ rem) (l := pend) hp (fun x hx hx1 y hy => by
          constructor
          · intro hc
            exact (h.dn y (.inl hc) x (h.pl x hx) hy).elim hx1.1 hx1.2
          · intro hc
            exact (h.dn y (.inr hc) x (h.pl x hx) hy).elim hx1.1 hx1.2) j hc |>.1 hj
      have hap := hD.apart (h.rl k hkr) hSe (fun p hp' => (hp p hp').1)
      rw [looksD_some hoi] at hap
      unfold wpOp
      rw [hoi]
      simp only
      have hme : ∀ j, j ∈ rem.erase k ↔ j ≠ k ∧ j ∈ rem := fun j => List.Nodup.mem_erase_iff hnd
      have hrb' : ∀ j ∈ rem.erase k, j ∉ k :: before := fun j hj hc => by
        have h1 := (hme j).1 hj
        rcases List.mem_cons.1 hc with e | hc
        · exact h1.1 e
        · exact hrb j h1.2 hc
      refine hone.real hA hi (hD.ns k o · · hoi) hap (fun a' b' w' hA' hi' => ih t (k :: before) q (rem.erase k) S _ _ a' b' w' hSe hck hrb' (hnd.erase k) hgt hi' hA' ?_ (fun j hj => hq j (hSq j hj)) (by
        rw [List.length_erase_of_mem hkr]
        have := List.length_pos_of_mem hkr
        omega))
      exact h.list hD hlt hp (fun j => by
        rw [hme j]
        constructor
        · rintro (h1 | h1)
          · exact ⟨.inl h1, fun e => hkS (e ▸ h1)⟩
          · exact ⟨.inr h1.2, h1.1⟩
        · rintro ⟨h1 | h1, h2⟩
          · exact .inl h1
          · exact .inr ⟨h2, h1⟩) hSq (fun j hj => List.mem_cons_of_mem _ (h.bef j (hqp j hj))) (fun j hj y hy => by
          rcases List.mem_cons.1 hj with e | hj
          · exact List.mem_cons_of_mem _ (hpre y (e ▸ hy))
          · exact List.mem_cons_of_mem _ (h.bp j hj y hy)) (fun j hj => h.pl j (hqp j hj)) (fun j hj => h.rl j ((hme j).1 hj).2) h.nd

theorem topD_spec : ∀ {r before : List Nat}, topD ops before r = true → (∀ l1 i l2, r = l1 ++ i :: l2 → i < ops.size ∧ ∀ p ∈ predsD ops i, p ∈ before ∨ p ∈ l1) ∧ r.Nodup ∧ ∀ i ∈ r, i ∉ before
  | [], before, _ => ⟨fun l1 i l2 he => by simp at he, List.nodup_nil, fun i hi => nomatch hi⟩
  | k :: r, before, h => by
    unfold topD at h
    simp only [Bool.and_eq_true, decide_eq_true_eq, Bool.not_eq_true'] at h
    obtain ⟨⟨⟨h0, h1⟩, h2⟩, h3⟩ := h
    obtain ⟨i1, i2, i3⟩ := topD_spec h3
    refine ⟨fun l1 i l2 he => ?_, List.nodup_cons.2 ⟨fun hc => i3 k hc (by simp), i2⟩, fun i hi => ?_⟩
    · cases l1 with
      | nil =>
        simp only [List.nil_append, List.cons.injEq] at he
        obtain ⟨rfl, _⟩ := he
        exact ⟨h0, fun p hp => .inl (List.contains_iff_mem.1 (List.all_eq_true.1 h1 p hp))⟩
      | cons x l1 =>
        simp only [List.cons_append, List.cons.injEq] at he
        obtain ⟨rfl, he⟩ := he
        obtain ⟨j1, j2⟩ := i1 l1 i l2 he
        refine ⟨j1, fun p hp => ?_⟩
        rcases j2 p hp with hc | hc
        · rcases List.mem_cons.1 hc with rfl | hc
          · exact .inr (by simp)
          · exact .inl hc
        · exact .inr (List.mem_cons_of_mem _ hc)
    · rcases List.mem_cons.1 hi with rfl | hi
      · intro hc
        rw [List.contains_iff_mem.2 hc] at h2
        cases h2
      · exact fun hc => i3 i hi (List.mem_cons_of_mem _ hc)

theorem Ok.drawTree {id : Nat} {t : PT} (hm : C.P.follows .mixedOrders = true) (hd : drawT ops es l t = true) (h : goT an C ops K t X) : Ok C (.code (.region id ops true) :: K) X := by
  intro a w hi cs
  unfold drawT at hd
  simp only [Bool.and_eq_true, beq_iff_eq] at hd
  obtain ⟨⟨⟨⟨⟨d1, d2⟩, d3⟩, d4⟩, d5⟩, d6⟩ := hd
  obtain ⟨t1, t2, t3⟩ := topD_spec d2
  have hD : DrawS ops l es := by
    refine ⟨fun i => ⟨fun hi => ?_, fun hi => ?_⟩, fun l1 i l2 he p hp => ((t1 l1 i l2 he).2 p hp).resolve_left (fun hc => nomatch hc), fun i hi j hj d hd => ?_, Region.noSelect_spec d4⟩
    · exact List.contains_iff_mem.1 (List.all_eq_true.1 d5 i (List.mem_range.2 hi))
    · obtain ⟨l1, l2, he⟩ := List.append_of_mem hi
      exact (t1 l1 i l2 he).1
    · have := List.all_eq_true.1 (List.all_eq_true.1 (List.all_eq_true.1 d3 i hi) j hj) d hd
      simp only [Bool.and_eq_true, Bool.or_eq_true, Bool.not_eq_true', beq_iff_eq] at this
      refine ⟨fun hc => ?_, fun hne hc => ?_⟩
      · rcases this.1 with h | h
        · rw [List.contains_iff_mem.2 hc] at h; cases h
        · exact List.contains_iff_mem.1 h
      · rcases this.2 with h | h
        · exact hne h
        · rw [List.contains_iff_mem.2 hc] at h; cases h
  have hi' : In C X a { w with drawn := w.drawn + 1 } := by
    obtain ⟨L, G, hi⟩ := hi
    exact ⟨L, G, hi.ext ⟨rfl, rfl, rfl, Nat.le_refl _, fun _ _ _ => rfl⟩⟩
  have hDue : Due ops l [] [] [] l (Array.replicate ops.size false) :=
    { sub := fun i hi => nomatch hi
      bef := fun i hi => nomatch hi
      bp := fun i hi => nomatch hi
      pl := fun i hi => nomatch hi
      rl := fun i hi => hi
      nd := List.nodup_nil
      li := fun i hi => by
        have hlt := (hD.all i).2 hi
        simp [hlt, hi]
      sz := by simp
      dn := fun j hj i hi _ => .inr hi }
  have hwp := wp_region_any (id := id) hm (draw_T hD ops.size t [] [] l [] (Array.replicate ops.size false) X a a { w with drawn := w.drawn + 1 } (fun j hj => nomatch hj) d6 (fun j _ hc => nomatch hc) t2 h hi' (Agree.refl _ a) hDue (fun j hj => nomatch hj) (by simp [d1]))
  obtain ⟨e, a', w', ⟨rfl, X', hX, hi2⟩, harr⟩ := hwp C.fr K cs
  obtain ⟨v, w2, fr, h3, h4, h5, h6⟩ := hX a' w' hi2 cs
  exact ⟨v, w2, fr, h3, Steps.trans harr h4, h5, h6⟩
end
structure KT (i : Nat) (es l : List Nat) (t : PT) : Type where
section
variable {C : Cx} {P : Program} {X X' : St} {ops : Array Oper} {K : List Item}
theorem Ok.gTk {id : Nat} {es l : List Nat} {t : PT} (kt : KT id es l t) (hP : C.P = P) (hm : P.follows .mixedOrders = true) (hd : BK (drawT ops es l t = true)) (h : goT an0 C ops K t X) : Ok C (.code (.region id ops true) :: K) X := Ok.drawTree (hP ▸ hm) hd.out h
theorem goT.zv {an : An} (vs : List Nat) (e : BT (Abs.tidy vs X = X')) (h : Ok C K X') : goT an C ops K .z X := Ok.tidy' vs e.out h
/-- What all leaves of a tree go on with is shown once. -/
structure SHK (p : Prop) : Prop where
  out : p
theorem goT.sh {an : An} {t : PT} {X0 : St} (h : SHK (Ok C K X0) → goT an C ops K t X) (h2 : Ok C K X0) : goT an C ops K t X := h ⟨h2⟩
theorem goT.zsv {an : An} {X0 : St} (s : SHK (Ok C K X0)) (vs : List Nat) (e : BTs (Abs.tidy vs X = X0)) : goT an C ops K .z X := Ok.tidy' vs e.out s.out
theorem goT.x {an : An} : goT an C ops K .x X := trivial
theorem goT.e {an : An} {i : Nat} {t : PT} (h : goP an C ops (goT an C ops K t) (noneL [i] ++ []) X) : goT an C ops K (.e i t) X := h
theorem goT.m {an : An} {k : Nat} {q : List Nat} {t a : PT} (h : goP an C ops (goT an C ops K t) [(k, some q)] X) (h2 : goT an C ops K a X) : goT an C ops K (.m k q t a) X := ⟨h, h2⟩
end
attribute [irreducible] goP goPK goPQ goT
end Go.Proofs.Ytppfilhlblnmcaa.Abs
/- An abstract machine for the walks, part 38: the walk of a way as one closing step. No condition. -/
set_option linter.unusedVariables false
namespace Go.Proofs.Ytppfilhlblnmcaa.Abs
open Go
/-! What a walk needs to know: the slots that are kept; results; drawn regions' plans; loops' and meetings' meaning. -/
structure KL (l : List Nat) : Type where
structure KR (l : Array ResultVar) : Type where
structure KD (i : Nat) (r : List (Nat × Option (List Nat))) : Type where
structure LJ (vs : List Nat) (J : Nat → St → Prop) : Type where
structure LM (kd N : Nat) (vs : List Nat) (J : St → Prop) : Type where
/-- What is shown later is told by what needs it. -/
theorem late {p T : Prop} (m : Hold T → p) (b : T) : p := m ⟨b⟩
theorem andS {a b : Prop} (h2 : b) (h1 : a) : a ∧ b := ⟨h1, h2⟩
theorem and4 {a b c : Prop} (h3 : c) (h1 : a) (h2 : b) : a ∧ b ∧ c := ⟨h1, h2, h3⟩
theorem and3 {a b c : Prop} (h1 : a) (h3 : c) (h2 : b) : a ∧ b ∧ c := ⟨h1, h2, h3⟩
structure BI (p : Prop) : Prop where
  out : p
theorem BI.go {p : Prop} (h : p := by simp only [entry, entE, enumM, rwA, rwC, Nat.reduceAdd, List.cons_append, List.nil_append, List.append_nil]; rfl) : BI p := ⟨h⟩
theorem ACalls.en {P : Program} {f nt : Nat} {fn : Func} {c : Code} {args outs : List Arg} {res : List (Bool × List Cell)} {E : St} (hf : P.funcs[f]? = some fn) (hnt : fn.ntmps = nt) (hn : BK ((fn.name == "runtime.NumGoroutine") = false)) (hb : BR (fn.body = some c)) (hl : BR (Nat.ble args.length nt = true)) (he : BI (entry args = E))
    (h : ∀ C F, Hold (Good C args F res outs) → C.P = P → P.funcs[C.fid]? = some fn → C.nt = nt → C.fx = fixed 0 args → Ok C [.code c] E) : ACalls P f args res outs :=
  ACalls.enter hf hn.out hb.out (hnt ▸ Nat.le_of_ble_eq_true hl.out) fun C F hC hP hi hn' hx => he.out ▸ h C F ⟨hC⟩ hP (hi ▸ hf) (hn'.trans hnt) hx
section
variable {an : An} {C : Cx} {P : Program} {nt : Nat} {fx vs : List Nat} {X X' : St} {ops : Array Oper} {K : List Item}
theorem Ok.rNk (kp : KL vs) (hP : C.P = P) (hn : C.nt = nt) (hx : C.fx = fx) {id : Nat} (hc : BR (noCall ops.toList = true)) (e : BV (evK P nt fx ops 0 ops.toList X (fun Y => Abs.tidy vs Y = X'))) (h : Ok C K X') : Ok C (.code (.region id ops false) :: K) X := Ok.rN vs hP hn hx hc e h
theorem Ok.rDk (kp : KL vs) (hP : C.P = P) (hn : C.nt = nt) (hx : C.fx = fx) (hm : P.follows .mixedOrders = true) {id : Nat} (hd : BK (drawD ops (noneL (List.range ops.size)) = true)) (e : BX (evM P nt fx ops ops.toList X (fun Y => Abs.tidy vs Y = X'))) (h : Ok C K X') : Ok C (.code (.region id ops true) :: K) X := Ok.rD vs hP hn hx hm hd e h
theorem Ok.gDk {id : Nat} {r : List (Nat × Option (List Nat))} (kd : KD id r) (hP : C.P = P) (hm : P.follows .mixedOrders = true) (hd : BK (drawD ops r = true)) (h : Abs.goD an0 C ops K r X) : Ok C (.code (.region id ops true) :: K) X := Ok.gD id r hP hm hd h
theorem goE.ek (kp : KL vs) (hP : C.P = P) (hn : C.nt = nt) (hx : C.fx = fx) {i : Nat} (hc : BR ((noCall (ops.toList.drop i) && Nat.ble i ops.size) = true)) (e : BV (evK P nt fx ops i (ops.toList.drop i) X (fun Y => Abs.tidy vs Y = X'))) (h : Ok C K X') : goE an C ops K i X := goE.e vs hP hn hx hc e h
theorem goD.zk (kp : KL vs) (e : BT (Abs.tidy vs X = X')) (h : Ok C K X') : Abs.goD an C ops K [] X := goD.z vs e h
theorem goT.zs {X0 : St} (s : SHK (Ok C K X0)) (kp : KL vs) (e : BTs (Abs.tidy vs X = X0)) : Abs.goT an C ops K .z X := goT.zsv s vs e
theorem goT.z (kp : KL vs) (e : BT (Abs.tidy vs X = X')) (h : Ok C K X') : Abs.goT an C ops K .z X := goT.zv vs e h
theorem Ok.bkk {rv : Array ResultVar} (kr : KR rv) {args outs outs' : List Arg} {F : List Nat} {res res' : List (Bool × List Cell)} {p : St × List (Bool × List Cell × Option Nat)} {ids : List Nat} (hC : Good C args F res outs) (hP : C.P = P) (hx : C.fx = fixed 0 args) {fn : Func} (hf : P.funcs[C.fid]? = some fn) (hrv : BR (fn.results = rv))
    (hfin : BF (Abs.fin P X 1000 rv.toList = some p)) (hres : BF (finRes p.2 = res')) (hlv : BF (Abs.leaveA p.1 0 args = some (outs', ids))) (hmut : BM (finMut p.2 = true)) (hk : BR (keysLt 1000 X.sg = true)) (hids : BR (onceB ids = true)) (hidl : BR (allLt 1000 ids = true)) (e1 : B1 (res' = res)) (e2 : BR (outs' = outs)) : Ok C (.code .ret :: K) X :=
  Ok.bk rv hC hP hx hf hrv hfin hres hlv hmut hk hids hidl e1 e2
theorem Ok.bkkE {rv : Array ResultVar} (kr : KR rv) {args outs outs' : List Arg} {F : List Nat} {res res' : List (Bool × List Cell)} {p : St × List (Bool × List Cell × Option Nat)} {ids : List Nat} (hC : Good C args F res outs) (hP : C.P = P) (hx : C.fx = fixed 0 args) {fn : Func} (hf : P.funcs[C.fid]? = some fn) (hrv : BR (fn.results = rv))
    (hfin : BF (Abs.fin P X 1000 rv.toList = some p)) (hres : BF (finRes p.2 = res')) (hlv : BF (Abs.leaveA p.1 0 args = some (outs', ids))) (hmut : BM (finMut p.2 = true)) (hk : BR (keysLt 1000 X.sg = true)) (hids : BR (onceB ids = true)) (hidl : BR (allLt 1000 ids = true)) (e1 : B1 (res' = res)) (e2 : B1 (outs' = outs)) : Ok C [] X :=
  Ok.bkE rv hC hP hx hf hrv hfin hres hlv hmut hk hids hidl e1 e2
theorem Ok.bkkB {rv : Array ResultVar} (kr : KR rv) {args outs outs' : List Arg} {F : List Nat} {res res' : List (Bool × List Cell)} {p : St × List (Bool × List Cell × Option Nat)} {ids : List Nat} (hC : Good C args F res outs) (hP : C.P = P) (hx : C.fx = fixed 0 args) {fn : Func} (hf : P.funcs[C.fid]? = some fn) (hrv : BR (fn.results = rv))
    (hfin : BF (Abs.fin P X 1000 rv.toList = some p)) (hres : BF (finRes p.2 = res')) (hlv : BF (Abs.leaveA p.1 0 args = some (outs', ids))) (hmut : BM (finMut p.2 = true)) (hk : BR (keysLt 1000 X.sg = true)) (hids : BR (onceB ids = true)) (hidl : BR (allLt 1000 ids = true)) (e1 : B1 (res' = res)) (e2 : B1 (outs' = outs)) : Ok C (.code .ret :: K) X :=
  Ok.bkB rv hC hP hx hf hrv hfin hres hlv hmut hk hids hidl e1 e2
theorem Ok.agk {c : Code} {J : Nat → St → Prop} (w : LJ vs J) {k : Nat} (ih : Hold (∀ k' X', k' < k → J k' X' → Ok C (.inLoop c :: K) X')) (e : BT (Abs.tidy vs X = X')) (h : ∃ k', k' < k ∧ J k' X') : Ok C (.inLoop c :: K) X := Ok.ag vs ih e h
theorem Ok.lqk {c : Code} {J : Nat → St → Prop} (w : LJ vs J) (hr : Hold (∀ k X, J k X → Hold (∀ k' X', k' < k → J k' X' → Ok C (.inLoop c :: K) X') → Ok C (.code c :: .inLoop c :: K) X)) (e : BT (Abs.tidy vs X = X')) (h0 : ∃ k, J k X') : Ok C (.code (.loop c) :: K) X := Ok.lq vs J e h0 hr.out
theorem Ok.mtk {kd N : Nat} {J : St → Prop} (w : LM kd N vs J) (hj : Hold (∀ X, J X → Ok C K X)) (e : BT (Abs.tidy vs X = X')) (h : J X') : Ok C K X := Ok.mt vs hj e h
theorem Ok.cBk {N : Nat} {J : St → Prop} (w : LM 0 N vs J) {c : Code} (hb : Hold (Hold (∀ X, J X → Ok C K X) → Ok C (.code (.block N c) :: K) X)) (hj : Hold (∀ X, J X → Ok C K X)) : Ok C (.code (.block N c) :: K) X := Ok.cutB N J hb.out hj.out
theorem Ok.cIk {N : Nat} {J : St → Prop} (w : LM 1 N vs J) {x y : Code} (hb : Hold (Hold (∀ X, J X → Ok C K X) → Ok C (.code (.cond (.tmp N) x y) :: K) X)) (hj : Hold (∀ X, J X → Ok C K X)) : Ok C (.code (.cond (.tmp N) x y) :: K) X := Ok.cutI N J hb.out hj.out
theorem Ok.cRk {N : Nat} {J : St → Prop} (w : LM 2 N vs J) {b : Bool} (hb : Hold (Hold (∀ X, J X → Ok C K X) → Ok C (.code (.region N ops b) :: K) X)) (hj : Hold (∀ X, J X → Ok C K X)) : Ok C (.code (.region N ops b) :: K) X := Ok.cutR N J hb.out hj.out
end
structure BZr (p : Prop) : Prop where
  out : p
theorem BZr.go {p : Prop} (h : p := by
    repeat (first
      | (apply Ok.mtk m0 hj0; exact BT.go; (repeat apply Exists.intro); apply and3; (focus (first | rfl | (simp (disch := omega) only [go_sem, ↓reduceIte, eq_self, and_self]; done))); (first | exact H.out | (have h0 := H.out; simp only [*, go_sem, ↓reduceIte, reduceCtorEq] at h0 ⊢; exact h0)); omega; done)
      | (apply Ok.mtk m1 hj1; exact BT.go; (repeat apply Exists.intro); apply and3; (focus (first | rfl | (simp (disch := omega) only [go_sem, ↓reduceIte, eq_self, and_self]; done))); (first | exact H.out | (have h0 := H.out; simp only [*, go_sem, ↓reduceIte, reduceCtorEq] at h0 ⊢; exact h0)); omega; done)
      | (apply Ok.mtk m2 hj2; exact BT.go; (repeat apply Exists.intro); apply and3; (focus (first | rfl | (simp (disch := omega) only [go_sem, ↓reduceIte, eq_self, and_self]; done))); (first | exact H.out | (have h0 := H.out; simp only [*, go_sem, ↓reduceIte, reduceCtorEq] at h0 ⊢; exact h0)); omega; done)
      | (apply Ok.mtk m3 hj3; exact BT.go; (repeat apply Exists.intro); apply and3; (focus (first | rfl | (simp (disch := omega) only [go_sem, ↓reduceIte, eq_self, and_self]; done))); (first | exact H.out | (have h0 := H.out; simp only [*, go_sem, ↓reduceIte, reduceCtorEq] at h0 ⊢; exact h0)); omega; done)
      | apply Ok.seq
      | apply Ok.skip
      | (apply Ok.rNk kp hP hn hx; exact BR.go; exact BV.go)
      | apply Ok.gS
      | (apply Ok.cn; exact BS.go)
      | apply Ok.block
      | apply Ok.inBlock
      | (apply Ok.ex; exact BR.go)
      | (apply Ok.gDk kd0 hP mo; exact BK.go)
      | (apply Ok.gDk kd1 hP mo; exact BK.go)
      | (apply Ok.gDk kd2 hP mo; exact BK.go)
      | (apply Ok.gDk kd3 hP mo; exact BK.go)
      | (apply Ok.gDk kd4 hP mo; exact BK.go)
      | (apply Ok.gDk kd5 hP mo; exact BK.go)
      | (apply Ok.gDk kd6 hP mo; exact BK.go)
      | (apply Ok.gDk kd7 hP mo; exact BK.go)
      | (apply Ok.rDk kp hP hn hx mo; exact BK.go; exact BX.go)
      | (apply goE.ek kp hP hn hx; exact BR.go; exact BV.go)
      | (apply goE.n hP hn hx; exact BR.go; exact BJ.go; exact BU.go)
      | (apply goE.q; exact BR.go; exact BG.go; exact BW.go)
      | (apply goQ.t hP; exact BR.go; exact BR.go; exact BS.go)
      | (apply goQ.f hn hx; exact BR.go; exact BR.go; exact BE.go)
      | (apply goD.zk kp; exact BT.go)
      | (apply goD.n hP hn hx; exact BN.go)
      | (apply goD.q; exact BR.go; exact BG.go; exact BW.go)
      | (apply goQD.t hP; exact BR.go; exact BR.go; exact BS.go)
      | (apply goQD.f hP hn hx; exact BR.go; exact BR.go; exact BE.go; exact BQ.go)
      | (apply goD.x hP hn hx; exact BR.go; exact BG.go; exact BR.go; exact BW.go; exact BS.go; exact BQ.go)
      | (apply goK.k hP hn hx; (first | exact e0.out (by assumption) (by omega) | exact c0.out (by assumption) | exact c1.out (by assumption) | exact c2.out (by assumption) | exact c3.out (by assumption) | exact c4.out (by assumption) | exact c5.out (by assumption) | exact c6.out (by assumption) | exact c7.out (by assumption) | exact c8.out (by assumption) | exact c9.out (by assumption) | exact c10.out (by assumption) | exact c11.out (by assumption) | exact c12.out (by assumption) | exact c13.out (by assumption) | exact c14.out (by assumption) | exact c15.out (by assumption) | exact c16.out (by assumption) | exact c17.out (by assumption) | exact c18.out (by assumption) | exact c19.out (by assumption)); exact BS.go)
      | (apply goKD.k hP hn hx; (first | exact e0.out (by assumption) (by omega) | exact c0.out (by assumption) | exact c1.out (by assumption) | exact c2.out (by assumption) | exact c3.out (by assumption) | exact c4.out (by assumption) | exact c5.out (by assumption) | exact c6.out (by assumption) | exact c7.out (by assumption) | exact c8.out (by assumption) | exact c9.out (by assumption) | exact c10.out (by assumption) | exact c11.out (by assumption) | exact c12.out (by assumption) | exact c13.out (by assumption) | exact c14.out (by assumption) | exact c15.out (by assumption) | exact c16.out (by assumption) | exact c17.out (by assumption) | exact c18.out (by assumption) | exact c19.out (by assumption)); exact BS.go; exact BQ.go)
      | (apply Ok.gTk kt0 hP mo; exact BK.go; apply goT.sh; intro sh)
      | (apply Ok.gTk kt1 hP mo; exact BK.go; apply goT.sh; intro sh)
      | (apply goT.zs sh kp; exact BTs.go)
      | (apply goT.z kp; exact BT.go)
      | exact goT.x
      | apply goT.e
      | apply goT.m
      | (apply goP.n hP hn hx; exact BN.go)
      | apply goP.z
      | (apply goP.q; exact BR.go; exact BG.go; exact BW.go)
      | (apply goPQ.t hP; exact BR.go; exact BR.go; exact BS.go)
      | (apply goPQ.f hP hn hx; exact BR.go; exact BR.go; exact BE.go; exact BQ.go)
      | (apply goP.x hP hn hx; exact BR.go; exact BG.go; exact BR.go; exact BW.go; exact BS.go; exact BQ.go)
      | (apply goPK.k hP hn hx; (first | exact e0.out (by assumption) (by omega) | exact c0.out (by assumption) | exact c1.out (by assumption) | exact c2.out (by assumption) | exact c3.out (by assumption) | exact c4.out (by assumption) | exact c5.out (by assumption) | exact c6.out (by assumption) | exact c7.out (by assumption) | exact c8.out (by assumption) | exact c9.out (by assumption) | exact c10.out (by assumption) | exact c11.out (by assumption) | exact c12.out (by assumption) | exact c13.out (by assumption) | exact c14.out (by assumption) | exact c15.out (by assumption) | exact c16.out (by assumption) | exact c17.out (by assumption) | exact c18.out (by assumption) | exact c19.out (by assumption)); exact BS.go; exact BQ.go)
      | (apply Ok.bkk kr hC.out hP hx hF; exact BR.go; exact BF.go; exact BF.go; exact BF.go; exact BM.go; exact BR.go; exact BR.go; exact BR.go; exact B1.go; exact BR.go)
      | (apply Ok.bkkE kr hC.out hP hx hF; exact BR.go; exact BF.go; exact BF.go; exact BF.go; exact BM.go; exact BR.go; exact BR.go; exact BR.go; exact B1.go; exact B1.go)
      | (apply Ok.bkkB kr hC.out hP hx hF; exact BR.go; exact BF.go; exact BF.go; exact BF.go; exact BM.go; exact BR.go; exact BR.go; exact BR.go; exact B1.go; exact B1.go)
      | (apply Ok.shE; exact BS.go; apply Ok.bkk kr hC.out hP hx hF; exact BR.go; exact BF.go; exact BF.go; exact BF.go; exact BM.go; exact BR.go; exact BR.go; exact BR.go; exact B1.go; exact BR.go)
      | (apply Ok.agk w0 ih0; exact BT.go; apply Exists.intro; apply andS; (repeat apply Exists.intro); apply and4; exact H.out; (focus (first | rfl | (simp (disch := omega) only [go_sem, ↓reduceIte, eq_self, and_self]; done))); omega; omega; done)
      | (apply Ok.agk w1 ih1; exact BT.go; apply Exists.intro; apply andS; (repeat apply Exists.intro); apply and4; exact H.out; (focus (first | rfl | (simp (disch := omega) only [go_sem, ↓reduceIte, eq_self, and_self]; done))); omega; omega; done)
      | (apply Ok.agk w2 ih2; exact BT.go; apply Exists.intro; apply andS; (repeat apply Exists.intro); apply and4; exact H.out; (focus (first | rfl | (simp (disch := omega) only [go_sem, ↓reduceIte, eq_self, and_self]; done))); omega; omega; done)
      | (apply Ok.agk w3 ih3; exact BT.go; apply Exists.intro; apply andS; (repeat apply Exists.intro); apply and4; exact H.out; (focus (first | rfl | (simp (disch := omega) only [go_sem, ↓reduceIte, eq_self, and_self]; done))); omega; omega; done)
      | (apply Ok.agk w4 ih4; exact BT.go; apply Exists.intro; apply andS; (repeat apply Exists.intro); apply and4; exact H.out; (focus (first | rfl | (simp (disch := omega) only [go_sem, ↓reduceIte, eq_self, and_self]; done))); omega; omega; done)
      | (apply Ok.agk w5 ih5; exact BT.go; apply Exists.intro; apply andS; (repeat apply Exists.intro); apply and4; exact H.out; (focus (first | rfl | (simp (disch := omega) only [go_sem, ↓reduceIte, eq_self, and_self]; done))); omega; omega; done)
      | (apply Ok.lqk w0 lp0; exact BT.go; (repeat apply Exists.intro); apply and4; exact H.out; (focus (first | rfl | (simp (disch := omega) only [go_sem, ↓reduceIte, eq_self, and_self]; done))); omega; done)
      | (apply Ok.lqk w1 lp1; exact BT.go; (repeat apply Exists.intro); apply and4; exact H.out; (focus (first | rfl | (simp (disch := omega) only [go_sem, ↓reduceIte, eq_self, and_self]; done))); omega; done)
      | (apply Ok.lqk w2 lp2; exact BT.go; (repeat apply Exists.intro); apply and4; exact H.out; (focus (first | rfl | (simp (disch := omega) only [go_sem, ↓reduceIte, eq_self, and_self]; done))); omega; done)
      | (apply Ok.lqk w3 lp3; exact BT.go; (repeat apply Exists.intro); apply and4; exact H.out; (focus (first | rfl | (simp (disch := omega) only [go_sem, ↓reduceIte, eq_self, and_self]; done))); omega; done)
      | (apply Ok.lqk w4 lp4; exact BT.go; (repeat apply Exists.intro); apply and4; exact H.out; (focus (first | rfl | (simp (disch := omega) only [go_sem, ↓reduceIte, eq_self, and_self]; done))); omega; done)
      | (apply Ok.lqk w5 lp5; exact BT.go; (repeat apply Exists.intro); apply and4; exact H.out; (focus (first | rfl | (simp (disch := omega) only [go_sem, ↓reduceIte, eq_self, and_self]; done))); omega; done))) : BZr p := ⟨h⟩
structure BZe (p : Prop) : Prop where
  out : p
theorem BZe.go {p : Prop} (h : p := by
    first
      | ((try clear lp0); (try clear lp1); (try clear lp2); (try clear lp3); (try clear lp4); (try clear lp5); cases H)
      | replace H := Hold.mk H
    all_goals (apply BZr.out; exact BZr.go)) : BZe p := ⟨h⟩
structure BZ (p : Prop) : Prop where
  out : p
theorem BZ.go {p : Prop} (h : p := by
    (try replace H := H.out)
    (try simp only [List.length_append, List.length_cons, List.length_nil, Nat.zero_add, beq_dec, bne_dec, Bool.or_eq_true, Bool.and_eq_true, Bool.not_eq_true', decide_eq_true_eq, decide_eq_false_iff_not, ite_or', ite_and', ite_not', ge_iff_le, gt_iff_lt] at H)
    repeat' first
      | (with_reducible replace H := sBindA H (by assumption))
      | (with_reducible replace H := sBindS H)
      | (with_reducible replace H := sBind H); obtain ⟨t, hA, H⟩ := H
      | (with_reducible replace H := sBool H); obtain ⟨c, H⟩ | ⟨c, H⟩ := H
      | (with_reducible replace H := sEq H); obtain ⟨c, c', H⟩ | ⟨c, c', H⟩ := H
      | (with_reducible replace H := sEqL H); obtain ⟨c, H⟩ | ⟨c, H⟩ := H
      | (with_reducible replace H := sIte H); obtain ⟨c, H⟩ | ⟨c, H⟩ := H
      | (with_reducible replace H := sAnd H); obtain ⟨c, H⟩ | ⟨c, H⟩ := H
      | (with_reducible replace H := sOr H); obtain ⟨c, H⟩ | ⟨c, H⟩ := H
    all_goals (apply BZe.out; exact BZe.go)) : BZ p := ⟨h⟩
structure BZn (p : Prop) : Prop where
  out : p
theorem BZn.go {p : Prop} (h : p := by
    (try replace H := H.out)
    (try simp only [List.length_append, List.length_cons, List.length_nil, Nat.zero_add, beq_dec, bne_dec, Bool.or_eq_true, Bool.and_eq_true, Bool.not_eq_true', decide_eq_true_eq, decide_eq_false_iff_not, ite_or', ite_and', ite_not', ge_iff_le, gt_iff_lt] at H)
    repeat' first
      | (with_reducible replace H := sBindA H (by assumption))
      | (with_reducible replace H := sBindS H)
      | (with_reducible replace H := sBind H); obtain ⟨t, hA, H⟩ := H
      | (with_reducible replace H := sBool H); obtain ⟨c, H⟩ | ⟨c, H⟩ := H
      | (with_reducible replace H := sEq H); obtain ⟨c, c', H⟩ | ⟨c, c', H⟩ := H
      | (with_reducible replace H := sEqL H); obtain ⟨c, H⟩ | ⟨c, H⟩ := H
      | (with_reducible replace H := sIte H); obtain ⟨c, H⟩ | ⟨c, H⟩ := H
      | (with_reducible replace H := sAnd H); obtain ⟨c, H⟩ | ⟨c, H⟩ := H
      | (with_reducible replace H := sOr H); obtain ⟨c, H⟩ | ⟨c, H⟩ := H
    all_goals (try (exfalso; clear H; omega))
    all_goals (apply BZe.out; exact BZe.go)) : BZn p := ⟨h⟩
structure BZa (p : Prop) : Prop where
  out : p
theorem BZa.go {p : Prop} (h : p := by
    (try replace H := H.out)
    (try simp only [List.length_append, List.length_cons, List.length_nil, Nat.zero_add, beq_dec, bne_dec, Bool.or_eq_true, Bool.and_eq_true, Bool.not_eq_true', decide_eq_true_eq, decide_eq_false_iff_not, ite_or', ite_and', ite_not', ge_iff_le, gt_iff_lt] at H)
    repeat' first
      | (with_reducible replace H := sBindA H (by assumption))
      | (with_reducible replace H := sBindS H)
      | (with_reducible replace H := sBind H); obtain ⟨t, hA, H⟩ := H
      | (with_reducible replace H := sBool H); obtain ⟨c, H⟩ | ⟨c, H⟩ := H
      | (with_reducible replace H := sEq H); obtain ⟨c, c', H⟩ | ⟨c, c', H⟩ := H
      | (with_reducible replace H := sEqL H); obtain ⟨c, H⟩ | ⟨c, H⟩ := H
      | (with_reducible replace H := sIte H); obtain ⟨c, H⟩ | ⟨c, H⟩ := H
      | (with_reducible replace H := sAnd H); obtain ⟨c, H⟩ | ⟨c, H⟩ := H
      | (with_reducible replace H := sOr H); obtain ⟨c, H⟩ | ⟨c, H⟩ := H
    all_goals (try simp only [List.length_append, List.length_cons, List.length_nil, Nat.zero_add] at *)
    all_goals (apply BZe.out; exact BZe.go)) : BZa p := ⟨h⟩
structure BZna (p : Prop) : Prop where
  out : p
theorem BZna.go {p : Prop} (h : p := by
    (try replace H := H.out)
    (try simp only [List.length_append, List.length_cons, List.length_nil, Nat.zero_add, beq_dec, bne_dec, Bool.or_eq_true, Bool.and_eq_true, Bool.not_eq_true', decide_eq_true_eq, decide_eq_false_iff_not, ite_or', ite_and', ite_not', ge_iff_le, gt_iff_lt] at H)
    repeat' first
      | (with_reducible replace H := sBindA H (by assumption))
      | (with_reducible replace H := sBindS H)
      | (with_reducible replace H := sBind H); obtain ⟨t, hA, H⟩ := H
      | (with_reducible replace H := sBool H); obtain ⟨c, H⟩ | ⟨c, H⟩ := H
      | (with_reducible replace H := sEq H); obtain ⟨c, c', H⟩ | ⟨c, c', H⟩ := H
      | (with_reducible replace H := sEqL H); obtain ⟨c, H⟩ | ⟨c, H⟩ := H
      | (with_reducible replace H := sIte H); obtain ⟨c, H⟩ | ⟨c, H⟩ := H
      | (with_reducible replace H := sAnd H); obtain ⟨c, H⟩ | ⟨c, H⟩ := H
      | (with_reducible replace H := sOr H); obtain ⟨c, H⟩ | ⟨c, H⟩ := H
    all_goals (try (exfalso; clear H; omega))
    all_goals (try simp only [List.length_append, List.length_cons, List.length_nil, Nat.zero_add] at *)
    all_goals (apply BZe.out; exact BZe.go)) : BZna p := ⟨h⟩
structure BZc (p : Prop) : Prop where
  out : p
theorem BZc.go {p : Prop} (h : p := by
    repeat (first
      | exact Ok.cBk m0 pa0 pb0
      | exact Ok.cIk m0 pa0 pb0
      | exact Ok.cRk m0 pa0 pb0
      | exact Ok.cBk m1 pa1 pb1
      | exact Ok.cIk m1 pa1 pb1
      | exact Ok.cRk m1 pa1 pb1
      | exact Ok.cBk m2 pa2 pb2
      | exact Ok.cIk m2 pa2 pb2
      | exact Ok.cRk m2 pa2 pb2
      | exact Ok.cBk m3 pa3 pb3
      | exact Ok.cIk m3 pa3 pb3
      | exact Ok.cRk m3 pa3 pb3
      | (apply Ok.mtk m0 hj0; exact BT.go; (repeat apply Exists.intro); apply and3; (focus (first | rfl | (simp (disch := omega) only [go_sem, ↓reduceIte, eq_self, and_self]; done))); (first | exact H.out | (have h0 := H.out; simp only [*, go_sem, ↓reduceIte, reduceCtorEq] at h0 ⊢; exact h0)); omega; done)
      | (apply Ok.mtk m1 hj1; exact BT.go; (repeat apply Exists.intro); apply and3; (focus (first | rfl | (simp (disch := omega) only [go_sem, ↓reduceIte, eq_self, and_self]; done))); (first | exact H.out | (have h0 := H.out; simp only [*, go_sem, ↓reduceIte, reduceCtorEq] at h0 ⊢; exact h0)); omega; done)
      | (apply Ok.mtk m2 hj2; exact BT.go; (repeat apply Exists.intro); apply and3; (focus (first | rfl | (simp (disch := omega) only [go_sem, ↓reduceIte, eq_self, and_self]; done))); (first | exact H.out | (have h0 := H.out; simp only [*, go_sem, ↓reduceIte, reduceCtorEq] at h0 ⊢; exact h0)); omega; done)
      | (apply Ok.mtk m3 hj3; exact BT.go; (repeat apply Exists.intro); apply and3; (focus (first | rfl | (simp (disch := omega) only [go_sem, ↓reduceIte, eq_self, and_self]; done))); (first | exact H.out | (have h0 := H.out; simp only [*, go_sem, ↓reduceIte, reduceCtorEq] at h0 ⊢; exact h0)); omega; done)
      | apply Ok.seq
      | apply Ok.skip
      | (apply Ok.rNk kp hP hn hx; exact BR.go; exact BV.go)
      | apply Ok.gS
      | (apply Ok.cn; exact BS.go)
      | apply Ok.block
      | apply Ok.inBlock
      | (apply Ok.ex; exact BR.go)
      | (apply Ok.gDk kd0 hP mo; exact BK.go)
      | (apply Ok.gDk kd1 hP mo; exact BK.go)
      | (apply Ok.gDk kd2 hP mo; exact BK.go)
      | (apply Ok.gDk kd3 hP mo; exact BK.go)
      | (apply Ok.gDk kd4 hP mo; exact BK.go)
      | (apply Ok.gDk kd5 hP mo; exact BK.go)
      | (apply Ok.gDk kd6 hP mo; exact BK.go)
      | (apply Ok.gDk kd7 hP mo; exact BK.go)
      | (apply Ok.rDk kp hP hn hx mo; exact BK.go; exact BX.go)
      | (apply goE.ek kp hP hn hx; exact BR.go; exact BV.go)
      | (apply goE.n hP hn hx; exact BR.go; exact BJ.go; exact BU.go)
      | (apply goE.q; exact BR.go; exact BG.go; exact BW.go)
      | (apply goQ.t hP; exact BR.go; exact BR.go; exact BS.go)
      | (apply goQ.f hn hx; exact BR.go; exact BR.go; exact BE.go)
      | (apply goD.zk kp; exact BT.go)
      | (apply goD.n hP hn hx; exact BN.go)
      | (apply goD.q; exact BR.go; exact BG.go; exact BW.go)
      | (apply goQD.t hP; exact BR.go; exact BR.go; exact BS.go)
      | (apply goQD.f hP hn hx; exact BR.go; exact BR.go; exact BE.go; exact BQ.go)
      | (apply goD.x hP hn hx; exact BR.go; exact BG.go; exact BR.go; exact BW.go; exact BS.go; exact BQ.go)
      | (apply goK.k hP hn hx; (first | exact e0.out (by assumption) (by omega) | exact c0.out (by assumption) | exact c1.out (by assumption) | exact c2.out (by assumption) | exact c3.out (by assumption) | exact c4.out (by assumption) | exact c5.out (by assumption) | exact c6.out (by assumption) | exact c7.out (by assumption) | exact c8.out (by assumption) | exact c9.out (by assumption) | exact c10.out (by assumption) | exact c11.out (by assumption) | exact c12.out (by assumption) | exact c13.out (by assumption) | exact c14.out (by assumption) | exact c15.out (by assumption) | exact c16.out (by assumption) | exact c17.out (by assumption) | exact c18.out (by assumption) | exact c19.out (by assumption)); exact BS.go)
      | (apply goKD.k hP hn hx; (first | exact e0.out (by assumption) (by omega) | exact c0.out (by assumption) | exact c1.out (by assumption) | exact c2.out (by assumption) | exact c3.out (by assumption) | exact c4.out (by assumption) | exact c5.out (by assumption) | exact c6.out (by assumption) | exact c7.out (by assumption) | exact c8.out (by assumption) | exact c9.out (by assumption) | exact c10.out (by assumption) | exact c11.out (by assumption) | exact c12.out (by assumption) | exact c13.out (by assumption) | exact c14.out (by assumption) | exact c15.out (by assumption) | exact c16.out (by assumption) | exact c17.out (by assumption) | exact c18.out (by assumption) | exact c19.out (by assumption)); exact BS.go; exact BQ.go)
      | (apply Ok.gTk kt0 hP mo; exact BK.go; apply goT.sh; intro sh)
      | (apply Ok.gTk kt1 hP mo; exact BK.go; apply goT.sh; intro sh)
      | (apply goT.zs sh kp; exact BTs.go)
      | (apply goT.z kp; exact BT.go)
      | exact goT.x
      | apply goT.e
      | apply goT.m
      | (apply goP.n hP hn hx; exact BN.go)
      | apply goP.z
      | (apply goP.q; exact BR.go; exact BG.go; exact BW.go)
      | (apply goPQ.t hP; exact BR.go; exact BR.go; exact BS.go)
      | (apply goPQ.f hP hn hx; exact BR.go; exact BR.go; exact BE.go; exact BQ.go)
      | (apply goP.x hP hn hx; exact BR.go; exact BG.go; exact BR.go; exact BW.go; exact BS.go; exact BQ.go)
      | (apply goPK.k hP hn hx; (first | exact e0.out (by assumption) (by omega) | exact c0.out (by assumption) | exact c1.out (by assumption) | exact c2.out (by assumption) | exact c3.out (by assumption) | exact c4.out (by assumption) | exact c5.out (by assumption) | exact c6.out (by assumption) | exact c7.out (by assumption) | exact c8.out (by assumption) | exact c9.out (by assumption) | exact c10.out (by assumption) | exact c11.out (by assumption) | exact c12.out (by assumption) | exact c13.out (by assumption) | exact c14.out (by assumption) | exact c15.out (by assumption) | exact c16.out (by assumption) | exact c17.out (by assumption) | exact c18.out (by assumption) | exact c19.out (by assumption)); exact BS.go; exact BQ.go)
      | (apply Ok.bkk kr hC.out hP hx hF; exact BR.go; exact BF.go; exact BF.go; exact BF.go; exact BM.go; exact BR.go; exact BR.go; exact BR.go; exact B1.go; exact BR.go)
      | (apply Ok.bkkE kr hC.out hP hx hF; exact BR.go; exact BF.go; exact BF.go; exact BF.go; exact BM.go; exact BR.go; exact BR.go; exact BR.go; exact B1.go; exact B1.go)
      | (apply Ok.bkkB kr hC.out hP hx hF; exact BR.go; exact BF.go; exact BF.go; exact BF.go; exact BM.go; exact BR.go; exact BR.go; exact BR.go; exact B1.go; exact B1.go)
      | (apply Ok.shE; exact BS.go; apply Ok.bkk kr hC.out hP hx hF; exact BR.go; exact BF.go; exact BF.go; exact BF.go; exact BM.go; exact BR.go; exact BR.go; exact BR.go; exact B1.go; exact BR.go))) : BZc p := ⟨h⟩
end Go.Proofs.Ytppfilhlblnmcaa.Abs
/- An abstract machine for the walks, part 39: a function that writes into the arrays of what it is handed. No condition. -/
set_option linter.unusedVariables false
namespace Go.Proofs.Ytppfilhlblnmcaa.Abs
open Go

/-! What is lent: the callee holds it as its own for the time; the headers stay. -/
def low1 : Cell → Cell
  | .sl (some _) s ds => .sl (some 0) s ds
  | c => c
def lowL : List Cell → List Cell
  | [] => []
  | c :: r => low1 c :: lowL r
def lowOk : List Cell → Bool
  | [] => true
  | .sl _ _ ds :: r => noMutL ds && lowOk r
  | _ :: r => lowOk r
/-- The headers told by number. -/
def pinL : Nat → List Cell → List Cell
  | _, [] => []
  | p, .sl (some _) s ds :: r => .sl (some (p + 1)) s ds :: pinL (p + 1) r
  | p, c :: r => c :: pinL (p + 1) r
/-- What has become of what was lent. -/
def unpin : Nat → List Cell → List Cell → Option (List Cell)
  | _, [], [] => some []
  | p, .sl (some _) _ _ :: r, .sl (some n) s ds :: r' => if n = p + 1 ∧ noMutL ds = true then (unpin (p + 1) r r').map (.sl (some 0) s ds :: ·) else none
  | p, c :: r, c' :: r' => if (cpy c && cpy c') = true then (unpin (p + 1) r r').map (c :: ·) else none
  | _, _, _ => none
/-- It, in its place again. -/
def repin : List Cell → List Cell → Option (List Cell)
  | [], [] => some []
  | .sl (some k) s _ :: r, .sl (some 0) s' ds :: r' => if s = s' then (repin r r').map (.sl (some k) s ds :: ·) else none
  | c :: r, c' :: r' => if (cpy c && cpy c') = true then (repin r r').map (c' :: ·) else none
  | _, _ => none

section
variable {w w' : World} {A A' : Nat → Prop} {hv hv' : Nat → Value}
theorem Rep.rehv {c : Cell} {v : Value} {F : List Nat} (h : Rep w A hv c v F) (hn : noMut c = true) : Rep w A hv' c v F := RepL.one (RepL.hv (hv' := hv') [c] [v] F h.one (by simp [noMutL, hn]))
theorem RepL.low : ∀ {cs : List Cell} {vs : List Value} {F : List Nat}, RepL w A hv cs vs F → lowOk cs = true → RepL w A hv0 (lowL cs) vs F
  | [], vs, F, h, _ => h
  | c :: r, vs, F, h, hl => by
    obtain ⟨v, us, F1, F2, rfl, rfl, h1, h2⟩ := h
    refine ⟨v, us, F1, F2, rfl, rfl, ?_, RepL.low h2 ?_⟩
    · cases c with
      | hole => exact h1
      | sc u => exact h1
      | sl k s ds =>
        simp only [lowOk, Bool.and_eq_true] at hl
        obtain ⟨base, len, cap, rfl, hs, hl1, hc, hm, hb⟩ := h1
        cases k with
        | none =>
          refine ⟨base, len, cap, rfl, hs, hl1, hc, (fun n hn => nomatch hn), ?_⟩
          cases base with
          | none => exact hb
          | some a =>
            obtain ⟨hsp, vs, G, hR, hcell, hk⟩ := hb
            exact ⟨hsp, vs, G, RepL.hv _ _ _ hR hl.1, hcell, hk⟩
        | some n =>
          refine ⟨base, len, cap, rfl, hs, hl1, hc, (fun n hn => by cases hn), ?_⟩
          cases base with
          | none => exact hb
          | some a =>
            obtain ⟨hsp, vs, G, hR, hcell, hk⟩ := hb
            exact ⟨fun _ => hsp (.inl (by simp)), vs, G, RepL.hv _ _ _ hR hl.1, hcell, hk⟩
    · cases c <;> simp_all [lowOk]
theorem RepL.pin : ∀ {cs : List Cell} {vs : List Value} {F : List Nat} (p : Nat), RepL w A hv0 cs vs F → (∀ n u, vs[n]? = some u → hv (p + n) = u) → RepL w A hv (pinL p cs) vs F
  | [], vs, F, p, h, _ => h
  | c :: r, vs, F, p, h, hh => by
    have hnm := hv0_noMutL _ _ _ h
    obtain ⟨v, us, F1, F2, rfl, rfl, h1, h2⟩ := h
    simp only [noMutL, Bool.and_eq_true] at hnm
    have hv0' : hv p = v := by have := hh 0 v rfl; simpa using this
    have htl : RepL w A hv (pinL (p + 1) r) us F2 := RepL.pin (p + 1) h2 (fun n u hu => by rw [show p + 1 + n = p + (n + 1) by omega]; exact hh (n + 1) u (by simpa using hu))
    cases c with
    | hole => exact ⟨v, us, F1, F2, rfl, rfl, h1, htl⟩
    | sc u => exact ⟨v, us, F1, F2, rfl, rfl, h1, htl⟩
    | sl k s ds =>
      cases k with
      | none => exact ⟨v, us, F1, F2, rfl, rfl, h1.rehv hnm.1, htl⟩
      | some n =>
        refine ⟨v, us, F1, F2, rfl, rfl, ?_, htl⟩
        obtain ⟨base, len, cap, rfl, hs, hl1, hc, hm, hb⟩ := h1
        refine ⟨base, len, cap, rfl, hs, hl1, hc, (fun m hm' => by cases hm'; exact hv0'.symm), ?_⟩
        have hds : noMutL ds = true := by have := hnm.1; simp only [noMut, Bool.and_eq_true] at this; exact this.2
        cases base with
        | none => exact hb
        | some a =>
          obtain ⟨hsp, vs, G, hR, hcell, hk⟩ := hb
          exact ⟨fun _ => hsp (.inl (by simp)), vs, G, RepL.hv _ _ _ hR hds, hcell, hk⟩
theorem RepL.unpin (hA : ∀ b, b < w.heap.size → A b → A' b ∧ w'.heap[b]? = w.heap[b]?) : ∀ {cs ds out : List Cell} {vs us : List Value} {F G : List Nat} (p : Nat), RepL w A hv0 cs vs F → RepL w' A' hv ds us G → (∀ n u, vs[n]? = some u → hv (p + n) = u) → unpin p cs ds = some out → RepL w' A' hv0 out vs G
  | [], [], out, vs, us, F, G, p, h, k, _, hu => by
    cases hu
    exact ⟨h.1, k.2⟩
  | c :: r, d :: r', out, vs, us, F, G, p, h, k, hh, hu => by
    obtain ⟨v, vs', F1, F2, rfl, rfl, h1, h2⟩ := h
    obtain ⟨u, us', G1, G2, rfl, rfl, k1, k2⟩ := k
    have hv0' : hv p = v := by have := hh 0 v rfl; simpa using this
    have hh' : ∀ n u, vs'[n]? = some u → hv (p + 1 + n) = u := fun n u hu => by rw [show p + 1 + n = p + (n + 1) by omega]; exact hh (n + 1) u (by simpa using hu)
    have cp : (if (Abs.cpy c && Abs.cpy d) = true then (Abs.unpin (p + 1) r r').map (c :: ·) else none) = some out → RepL w' A' hv0 out (v :: vs') (G1 ++ G2) := by
      intro hu
      split at hu
      · rename_i hc
        rw [Bool.and_eq_true] at hc
        cases hr : Abs.unpin (p + 1) r r' with
        | none => rw [hr] at hu; cases hu
        | some o =>
          rw [hr] at hu
          cases hu
          have e1 := Rep.cpy _ _ _ h1 hc.1
          have e2 := Rep.cpy _ _ _ k1 hc.2
          subst e1
          subst e2
          exact ⟨v, vs', [], G2, rfl, rfl, Rep.frame _ _ _ h1 (fun b hb hb2 => hb2.elim (fun hb2 => (hA b hb hb2).2) (fun hb2 => nomatch hb2)) (fun b hb hb2 => (hA b hb hb2).1), RepL.unpin hA (p + 1) h2 k2 hh' hr⟩
      · cases hu
    cases c with
    | hole => cases d <;> exact cp (by simpa only [Abs.unpin] using hu)
    | sc x => cases d <;> exact cp (by simpa only [Abs.unpin] using hu)
    | sl q s cs =>
      cases q with
      | none => cases d <;> exact cp (by simpa only [Abs.unpin] using hu)
      | some m =>
        cases d with
        | hole => exact cp (by simpa only [Abs.unpin] using hu)
        | sc x => exact cp (by simpa only [Abs.unpin] using hu)
        | sl q' s' ds =>
          cases q' with
          | none => exact cp (by simpa only [Abs.unpin] using hu)
          | some n =>
            simp only [Abs.unpin] at hu
            split at hu
            · rename_i hc
              obtain ⟨rfl, hnm⟩ := hc
              cases hr : Abs.unpin (p + 1) r r' with
              | none => rw [hr] at hu; cases hu
              | some o =>
                rw [hr] at hu
                cases hu
                obtain ⟨base, len, cap, rfl, hs, hl1, hc, hm, hb⟩ := k1
                have := hm p rfl
                rw [hv0'] at this
                subst this
                refine ⟨_, vs', G1, G2, rfl, rfl, ⟨base, len, cap, rfl, hs, hl1, hc, (fun n hn => by cases hn), ?_⟩, RepL.unpin hA (p + 1) h2 k2 hh' hr⟩
                cases base with
                | none => exact hb
                | some a =>
                  obtain ⟨hsp, vs, G, hR, hcell, hk⟩ := hb
                  exact ⟨fun _ => hsp (.inl (by simp)), vs, G, RepL.hv _ _ _ hR hnm, hcell, hk⟩
            · cases hu
  | [], _ :: _, out, vs, us, F, G, p, h, k, _, hu => by simp [Abs.unpin] at hu
  | _ :: _, [], out, vs, us, F, G, p, h, k, _, hu => by simp [Abs.unpin] at hu
theorem RepL.repin : ∀ {old ds out : List Cell} {vs : List Value} {F G : List Nat}, RepL w A hv old vs F → RepL w' A' hv0 ds vs G → repin old ds = some out → RepL w' A' hv out vs G ∧ out.length = old.length
  | [], [], out, vs, F, G, h, k, hu => by
    cases hu
    exact ⟨k, rfl⟩
  | c :: r, d :: r', out, vs, F, G, h, k, hu => by
    have hnm := hv0_noMutL _ _ _ k
    obtain ⟨v, vs', F1, F2, rfl, rfl, h1, h2⟩ := h
    obtain ⟨u, us', G1, G2, he, rfl, k1, k2⟩ := k
    cases he
    simp only [noMutL, Bool.and_eq_true] at hnm
    have cp : (if (Abs.cpy c && Abs.cpy d) = true then (Abs.repin r r').map (d :: ·) else none) = some out → RepL w' A' hv out (v :: vs') (G1 ++ G2) ∧ out.length = (c :: r).length := by
      intro hu
      split at hu
      · cases hr : Abs.repin r r' with
        | none => rw [hr] at hu; cases hu
        | some o =>
          rw [hr] at hu
          cases hu
          obtain ⟨q1, q2⟩ := RepL.repin h2 k2 hr
          exact ⟨⟨v, vs', G1, G2, rfl, rfl, k1.rehv hnm.1, q1⟩, by simp [q2]⟩
      · cases hu
    cases c with
    | hole => cases d <;> exact cp (by simpa only [Abs.repin] using hu)
    | sc x => cases d <;> exact cp (by simpa only [Abs.repin] using hu)
    | sl q s cs =>
      cases q with
      | none => cases d <;> exact cp (by simpa only [Abs.repin] using hu)
      | some m =>
        cases d with
        | hole => exact cp (by simpa only [Abs.repin] using hu)
        | sc x => exact cp (by simpa only [Abs.repin] using hu)
        | sl q' s' ds =>
          cases q' with
          | none => exact cp (by simpa only [Abs.repin] using hu)
          | some n =>
            cases n with
            | succ n => exact cp (by simpa only [Abs.repin] using hu)
            | zero =>
              simp only [Abs.repin] at hu
              split at hu
              · rename_i hs0
                subst hs0
                cases hr : Abs.repin r r' with
                | none => rw [hr] at hu; cases hu
                | some o =>
                  rw [hr] at hu
                  cases hu
                  obtain ⟨q1, q2⟩ := RepL.repin h2 k2 hr
                  refine ⟨⟨v, vs', G1, G2, rfl, rfl, ?_, q1⟩, by simp [q2]⟩
                  have hm0 : ∀ n, some m = some (n + 1) → v = hv n := by
                    obtain ⟨_, _, _, _, _, _, _, hm, _⟩ := h1
                    exact hm
                  obtain ⟨base, len, cap, rfl, hs, hl1, hc, hm, hb⟩ := k1
                  have hds : noMutL ds = true := by have := hnm.1; simp only [noMut, Bool.and_eq_true] at this; exact this.2
                  refine ⟨base, len, cap, rfl, hs, hl1, hc, hm0, ?_⟩
                  cases base with
                  | none => exact hb
                  | some a =>
                    obtain ⟨hsp, vs, G, hR, hcell, hk⟩ := hb
                    exact ⟨fun _ => hsp (.inl (by simp)), vs, G, RepL.hv _ _ _ hR hds, hcell, hk⟩
              · cases hu
  | [], _ :: _, out, vs, F, G, h, k, hu => by simp [Abs.repin] at hu
  | _ :: _, [], out, vs, F, G, h, k, hu => by simp [Abs.repin] at hu
end
end Go.Proofs.Ytppfilhlblnmcaa.Abs
/- An abstract machine for the walks, part 40: calls of functions that write into what they are handed. No condition. -/
set_option linter.unusedVariables false
namespace Go.Proofs.Ytppfilhlblnmcaa.Abs
open Go

def rvM : Option Value → Value
  | some r => r
  | none => .tuple #[]
def rtM : Option Value → T
  | some r => .dat false [.sc r]
  | none => .tup []
def rfM : Option Value → Bool
  | some r => flat r
  | none => true
/-- A call of function f with a value (cells cs) and scalars v comes back with r (a scalar, or nothing); the value's arrays then are cs'. -/
def MCalls (P : Program) (f : FuncId) (g : Bool) (cs : List Cell) (v : List Value) (r : Option Value) (cs' : List Cell) : Prop :=
  Enters P f ∧ ∀ w A u F, VRep w A g cs u F → F.Nodup → (∀ b ∈ F, ¬ A b) → (∀ b, A b → b < w.heap.size) → Calls P f (u :: v).toArray w fun e w' => ∃ F', e = .returned (rvM r) ∧ VRep w' (After A w.heap.size F') g cs' u F' ∧ F'.Nodup ∧ (∀ b ∈ F', b ∈ F ∨ w.heap.size ≤ b) ∧ Ext (· ∈ F) w w'

def okM (id : Nat) : T → Bool
  | .pl id' q' _ => id != id' || q'.isNone
  | .bor id' q' _ _ _ => id != id' || q'.isNone
  | .tup ts => ts.all fun t => !(refU t).contains id
  | _ => true
def killM (id : Nat) : List (Nat × T) → List (Nat × T)
  | [] => []
  | (a, x) :: r => if okM id x then (a, x) :: killM id r else del (killM id r) a
theorem lk_killM {id : Nat} : ∀ {l : List (Nat × T)} {t : Nat} {x : T}, lk (killM id l) t = some x → lk l t = some x ∧ okM id x = true
  | [], t, x, h => by cases h
  | (a, y) :: r, t, x, h => by
    unfold killM at h
    split at h
    · rename_i hok
      simp only [lk] at h ⊢
      split at h
      · rename_i e
        cases h
        exact ⟨if_pos e, hok⟩
      · rename_i e
        rw [if_neg e]
        exact lk_killM h
    · rw [lk_del] at h
      split at h
      · cases h
      · rename_i e
        simp only [lk, if_neg e]
        exact lk_killM h
def scalL (X : St) : List Operand → Option (List Value)
  | [] => some []
  | x :: r => match scal X x, scalL X r with
    | some v, some vs => some (v :: vs)
    | _, _ => none
/-- What such a call takes. -/
def prepM (X : St) (x : Operand) (y : List Operand) : Option (Nat × Option (Nat × Nat) × Nat × Nat × Bool × List Cell × List Value) :=
  match look X x, scalL X y with
  | some (.bor id q j n g), some v => match cont X id q j n with
    | some cs => if lowOk cs = true then some (id, q, j, n, g, cs, v) else none
    | none => none
  | _, _ => none
/-- What it leaves. -/
def afterM (nt : Nat) (fx : List Nat) (X : St) (id : Nat) (q : Option (Nat × Nat)) (j n : Nat) (cs cs' : List Cell) (r : Option Value) (d : Option Tmp) : Option St :=
  match d with
  | none => none
  | some d => if d ∉ fx ∧ d < nt ∧ rfM r = true then match lk X.sg id with
    | some ob => match row q ob.cells, repin cs cs' with
      | some rs, some new => some { env := ins (killM id X.env) d (rtM r), sg := ins X.sg id (ob.with (setRow q ob.cells (over rs j new))) }
      | _, _ => none
    | none => none
    else none

section
variable {C : Cx} {X X' : St} {a : Act} {w w' : World} {L : Nat → Loc} {G : Nat → List Nat}
theorem Sim.chgE (h : Sim C X a w L G) (i : Nat) (o' : Ob) (F' : List Nat) (env' : List (Nat × T)) (hx : Ext (· ∈ G i) w w') (hF : F'.Nodup) (hFs : ∀ b ∈ F', b ∈ G i ∨ w.heap.size ≤ b) (ho : ObRep w' (C.A (upd G i F')) C.hv (L i) o' F')
    (he : ∀ t x, lk env' t = some x → lk X.env t = some x ∧ RepT w' (C.A (upd G i F')) C.hv L (ins X.sg i o') x (a.tmps.getD t undef)) : Sim C { env := env', sg := ins X.sg i o' } a w' L (upd G i F') := by
  have h0 : Sim C { X with env := [] } a w L G := h.less (fun t x hx => nomatch hx)
  have h1 := h0.chg i o' (L i) F' hx hF hFs ho (fun t x hx => nomatch hx)
  have hL : upd L i (L i) = L := by
    funext k
    by_cases e : k = i
    · subst e; exact upd_self _ _ _
    · exact upd_ne _ _ e
  rw [hL] at h1
  exact { ob := h1.ob, no := h1.no, nd := h1.nd, dj := h1.dj, own := h1.own, en := fun t x hx => (he t x hx).2, rf := fun t x hx k hk => (by
      show lk (ins X.sg i o') k ≠ none
      rw [lk_ins]
      split
      · simp
      · exact h.rf t x (he t x hx).1 k hk), fr := h1.fr, df := h1.df, fx := h1.fx, nt := h1.nt }

theorem Sim.scalL (h : Sim C X a w L G) : ∀ {ys : List Operand} {vs : List Value}, scalL X ys = some vs → ys.map a.eval = vs
  | [], vs, hs => by cases hs; rfl
  | y :: r, vs, hs => by
    unfold Abs.scalL at hs
    split at hs
    · rename_i v vs' h1 h2
      cases hs
      rw [List.map_cons, (h.scal h1).1, Sim.scalL h h2]
    · cases hs
/-- Such a call. -/
theorem SemStep.callM {o : Oper} {fid : FuncId} {x : Operand} {y : List Operand} {args : Array Operand} {ts : Array TypeId} {id j n : Nat} {q : Option (Nat × Nat)} {g : Bool} {cs cs' : List Cell} {v : List Value} {r : Option Value} (ho : o.op = .call { callee := .value (.func fid), args := args, argTypes := ts }) (hargs0 : args.toList = x :: y) (hp : prepM X x y = some (id, q, j, n, g, cs, v)) (hm : MCalls C.P fid g (lowL cs) v r cs')
    (ha : afterM C.nt C.fx X id q j n cs cs' r o.dst = some X') : SemStep C X o X' := by
  rintro a w ⟨L, G, h⟩ K Q hK
  unfold prepM at hp
  split at hp
  · rename_i id' q' j' n' g' v' hlx hly
    split at hp
    · rename_i cs0 hc
      split at hp
      · rename_i hlow
        cases hp
        obtain ⟨ob, rs, s, vs, F1, F2, F3, h1, h2, h3, h4, h5, h6, h7, h8⟩ := h.cont hc
        obtain ⟨hb, _⟩ := h.look hlx
        obtain ⟨s', vs', k1, k2, k3, k4⟩ := hb ob h1 rs h2 h3
        cases h4.uniq k1
        have hvs : vs' = vs := by
          apply List.ext_getElem?
          intro i
          by_cases hi : i < n
          · rw [← k3 i hi, h8 i hi]
          · rw [List.getElem?_eq_none (by omega), List.getElem?_eq_none (by omega)]
        subst hvs
        have hy := h.scalL hly
        have hlt : ∀ i, ∀ b ∈ G i, b < w.heap.size := by
          intro i b hb
          cases hi : lk X.sg i with
          | none => rw [h.no i hi] at hb; cases hb
          | some o => exact (h.ob i o hi).lt b hb
        have hob := h.ob id ob h1
        obtain ⟨s2, vr, Fa, Fr, Fb, t1, t2, t3, t4, t5, t6⟩ := hob.turn (h.nd id) h2
        cases t1.uniq h4
        obtain ⟨v1, us, v3, f1, f2, f3, rfl, hl1, hl2, rfl, r1, r2, r3⟩ := RepL.mid t2 j n h3
        have hus : us = vs' := by
          apply List.ext_getElem?
          intro i
          by_cases hi : i < n
          · rw [← h8 i hi]
            rw [t4 (j + i) _ (by
              rw [List.append_assoc, List.getElem?_append_right (by omega), List.getElem?_append_left (by omega), show j + i - v1.length = i by omega]
              exact List.getElem?_eq_getElem (by omega))]
            exact List.getElem?_eq_getElem (by omega)
          · rw [List.getElem?_eq_none (by omega), List.getElem?_eq_none (by omega)]
        subst hus
        have hcs : (rs.drop j).take n = cs := by
          unfold Abs.cont at hc
          rw [h1] at hc
          simp only [h2, if_pos h3] at hc
          exact Option.some.inj hc
        rw [hcs] at r2
        have hnd := h.nd id
        rw [t3] at hnd
        have hf2G : ∀ b ∈ f2, b ∈ G id := fun b hb => by rw [t3]; simp [hb]
        have hf2nd : f2.Nodup := by
          rw [List.nodup_append, List.nodup_append, List.nodup_append, List.nodup_append] at hnd
          exact hnd.1.2.1.1.2.1
        let A : Nat → Prop := fun b => b < w.heap.size ∧ C.A G b
        have hcall := hm.2 w A (a.eval x) f2 ⟨us, RepL.frame _ _ _ (r2.low hlow) (fun _ _ _ => rfl) (fun b hb hb2 => ⟨hb, hb2⟩), k4⟩ hf2nd (fun b hb hb2 => hb2.2.2 id (hf2G b hb)) (fun b hb => hb.1)
        unfold Oper.wp
        rw [run_call (us := #[]) hm.1 ho rfl]
        have hargs : args.map a.eval ++ #[] = (a.eval x :: v).toArray := by
          apply Array.ext'
          simp [hargs0, hy]
        rw [Oper.upon_enter, hargs]
        refine hcall.mono ?_
        rintro e w' ⟨F', rfl, ⟨us', hR', hmk⟩, hnd', hsub, hext⟩
        simp only
        have hflu := RepL.flat r2
        have hflu' := RepL.flat hR'
        have huseq : us' = us := by
          have e1 := mkv_cells hmk hflu'
          have e2 := mkv_cells k4 hflu
          rw [← e1, ← e2]
        subst huseq
        unfold afterM at ha
        split at ha
        · cases ha
        · rename_i d hd
          split at ha
          · rename_i hdc
            rw [h1] at ha
            simp only at ha
            split at ha
            · rename_i rs2 new hq2 hrep
              rw [h2] at hq2
              cases hq2
              cases ha
              rw [hd]
              -- the blocks behind
              have dis : ∀ b, b ∈ f2 → b ∉ Fa ∧ b ∉ f1 ∧ b ∉ f3 ∧ b ∉ Fb := by
                intro b hb
                rw [List.nodup_append, List.nodup_append, List.nodup_append, List.nodup_append] at hnd
                obtain ⟨⟨n1, ⟨⟨n2, n3, n4⟩, n5, n6⟩, n7⟩, n8, n9⟩ := hnd
                exact ⟨fun hc => n7 b hc b (by simp [hb]) rfl, fun hc => n4 b hc b hb rfl, fun hc => n6 b (by simp [hb]) b hc rfl, fun hc => n9 b (by simp [hb]) b hc rfl⟩
              have inG : ∀ b, b ∈ Fa ∨ b ∈ f1 ∨ b ∈ f3 ∨ b ∈ Fb → b ∈ G id := by
                intro b hb
                rw [t3]
                simp only [List.mem_append]
                rcases hb with hb | hb | hb | hb <;> simp [hb]
              have hext' : Ext (· ∈ G id) w w' := ⟨hext.os, hext.tape, hext.output, hext.size, fun b hb hn => hext.block b hb (fun hc => hn (hf2G b hc))⟩
              generalize hFn : Fa ++ (f1 ++ F' ++ f3) ++ Fb = Fn
              have hFnm : ∀ b, b ∈ Fn ↔ (b ∈ Fa ∨ b ∈ f1 ∨ b ∈ f3 ∨ b ∈ Fb) ∨ b ∈ F' := by
                intro b
                rw [← hFn]
                simp only [List.mem_append]
                constructor
                · rintro ((h | (h | h) | h) | h) <;> simp [h]
                · rintro ((h | h | h | h) | h) <;> simp [h]
              have hold : ∀ b, (b ∈ Fa ∨ b ∈ f1 ∨ b ∈ f3 ∨ b ∈ Fb) → b ∉ F' := by
                intro b hb hb'
                rcases hsub b hb' with h0 | h0
                · have := dis b h0
                  rcases hb with hb | hb | hb | hb
                  · exact this.1 hb
                  · exact this.2.1 hb
                  · exact this.2.2.1 hb
                  · exact this.2.2.2 hb
                · have := hlt id b (inG b hb); omega
              have hFnd : Fn.Nodup := by
                rw [← hFn]
                rw [List.nodup_append, List.nodup_append, List.nodup_append, List.nodup_append] at hnd ⊢
                obtain ⟨⟨n1, ⟨⟨n2, n3, n4⟩, n5, n6⟩, n7⟩, n8, n9⟩ := hnd
                refine ⟨⟨n1, ⟨⟨n2, hnd', fun x hx y hy hxy => ?_⟩, n5, fun x hx y hy hxy => ?_⟩, fun x hx y hy hxy => ?_⟩, n8, fun x hx y hy hxy => ?_⟩
                · subst hxy; exact hold x (.inr (.inl hx)) hy
                · subst hxy
                  rcases List.mem_append.1 hx with hx | hx
                  · exact n6 x (by simp [hx]) x hy rfl
                  · exact hold x (.inr (.inr (.inl hy))) hx
                · subst hxy
                  rcases List.mem_append.1 hy with hy | hy
                  · rcases List.mem_append.1 hy with hy | hy
                    · exact n7 x hx x (by simp [hy]) rfl
                    · exact hold x (.inl hx) hy
                  · exact n7 x hx x (by simp [hy]) rfl
                · subst hxy
                  rcases List.mem_append.1 hx with hx | hx
                  · exact n9 x (by simp [hx]) x hy rfl
                  · rcases List.mem_append.1 hx with hx | hx
                    · rcases List.mem_append.1 hx with hx | hx
                      · exact n9 x (by simp [hx]) x hy rfl
                      · exact hold x (.inr (.inr (.inr hy))) hx
                    · exact n9 x (by simp [hx]) x hy rfl
              have hFns : ∀ b ∈ Fn, b ∈ G id ∨ w.heap.size ≤ b := by
                intro b hb
                rcases (hFnm b).1 hb with hb | hb
                · exact .inl (inG b hb)
                · exact (hsub b hb).imp (hf2G b) (fun h => h)
              -- what may be read
              have hA : ∀ b, C.A G b → b < w.heap.size → C.A (upd G id Fn) b := by
                intro b hb hlb
                refine ⟨hb.1, fun i hi => ?_⟩
                by_cases e : i = id
                · rw [e, upd_self] at hi
                  rcases hFns b hi with h0 | h0
                  · exact hb.2 _ h0
                  · omega
                · rw [upd_ne _ _ e] at hi; exact hb.2 i hi
              have hA' : ∀ b, b < w'.heap.size → After A w.heap.size F' b → C.A (upd G id Fn) b := by
                intro b hb ⟨h0, h00⟩
                rcases h0 with h0 | h0
                · exact hA b h0.2 h0.1
                · refine ⟨.inr (Nat.le_trans h.fr.size h0), fun i hi => ?_⟩
                  by_cases e : i = id
                  · rw [e, upd_self] at hi
                    rcases (hFnm b).1 hi with h3 | h3
                    · have := hlt _ b (inG b h3); omega
                    · exact h00 h3
                  · rw [upd_ne _ _ e] at hi
                    have := hlt i b hi; omega
              have hunch : ∀ b, b < w.heap.size → b ∉ f2 → w'.heap[b]? = w.heap[b]? := fun b hb hn => hext.block b hb hn
              have hAf2 : ∀ b, C.A G b → b ∉ f2 := fun b hb hc => hb.2 id (hf2G b hc)
              have hmov : ∀ (ds : List Cell) (vv : List Value) (FF : List Nat), RepL w (C.A G) C.hv ds vv FF → (∀ b ∈ FF, b ∉ f2) → RepL w' (C.A (upd G id Fn)) C.hv ds vv FF := by
                intro ds vv FF hR hn
                exact RepL.frame _ _ _ hR (fun b hb hc => hunch b hb (hc.elim (hAf2 b) (hn b))) (fun b hb hc => hA b hc hb)
              obtain ⟨hnewR, hnewl⟩ := RepL.repin r2 hR' hrep
              have hcl : cs.length = n := by rw [← hcs, List.length_take, List.length_drop]; omega
              have hnew : RepL w' (C.A (upd G id Fn)) C.hv (over rs j new) (v1 ++ us' ++ v3) (f1 ++ F' ++ f3) := by
                have := RepL.append (RepL.append (hmov _ _ _ r1 (fun b hb hc => (dis b hc).2.1 hb)) (RepL.frame _ _ _ hnewR (fun _ _ _ => rfl) hA')) (hmov _ _ _ r3 (fun b hb hc => (dis b hc).2.2.1 hb))
                simp only [over]
                rw [hnewl, hcl]
                exact this
              have hovl : (over rs j new).length = rs.length := over_length (by omega)
              have hlr : rs.length = (v1 ++ us' ++ v3).length := (RepL.length t2).symm
              have hmem : ∀ b o', s = .mem b o' → b ∈ Fa := fun b o' hs => (t5 b o' hs).1
              have hturn := t6 w' (C.A (upd G id Fn)) _ _ _ hnew hovl (by
                cases s with
                | vals us0 =>
                  show us0 = v1 ++ us' ++ v3
                  apply List.ext_getElem?
                  intro i
                  have hss : Src.vals us0 = (L id).src := by
                    cases q with
                    | none => exact h4
                    | some ci => obtain ⟨c, i⟩ := ci; obtain ⟨_, _, _, _, _, _, _, _, he⟩ := h4; cases he
                  cases q with
                  | some ci => obtain ⟨c, i⟩ := ci; obtain ⟨_, _, _, _, _, _, _, _, he⟩ := h4; cases he
                  | none =>
                    cases hLi : L id with
                    | blk b => rw [hLi] at hss; cases hss
                    | vals uu =>
                      rw [hLi] at hss
                      cases hss
                      have h0 := hob
                      rw [hLi] at h0
                      cases ob with
                      | mem _ => exact h0.elim
                      | vir cc =>
                        have e1 := RepL.length (show RepL w (C.A G) C.hv cc us0 (G id) from h0)
                        cases h2
                        by_cases hi : i < (v1 ++ us' ++ v3).length
                        · have h9 := t4 i _ (List.getElem?_eq_getElem hi)
                          rw [List.getElem?_eq_getElem hi]
                          exact h9
                        · have e2 : cc.length = (v1 ++ us' ++ v3).length := hlr
                          rw [List.getElem?_eq_none (by omega), List.getElem?_eq_none (by omega)]
                | mem b o' =>
                  obtain ⟨hbFa, c, e, hblk, hsz, htake⟩ := t5 b o' rfl
                  refine ⟨c, e, hblk, hsz, hlr.symm, ?_⟩
                  have hbn : b ∉ f2 := fun hc => (dis b hc).1 hbFa
                  rw [hunch b (hlt id b (inG b (.inl hbFa))) hbn, hblk]
                  congr 2
                  rw [← htake, ← List.drop_drop, List.append_assoc, List.take_append_drop, List.take_append_drop])
                (fun us0 hu => by
                  subst hu
                  cases q with
                  | some ci => obtain ⟨c, i⟩ := ci; obtain ⟨_, _, _, _, _, _, _, _, he⟩ := h4; cases he
                  | none => rfl)
                (fun b hb _ hk => hunch b hb (by
                  rcases hk with hk | hk | hk
                  · exact hAf2 b hk
                  · exact fun hc => (dis b hc).1 hk
                  · exact fun hc => (dis b hc).2.2.2 hk))
                (fun b hb hk => ⟨hA b hk hb, fun hs => by
                  cases s with
                  | vals us0 => exact hs
                  | mem b' o' =>
                    have e : b' = b := hs
                    subst e
                    exact hk.2 id (inG _ (.inl (hmem _ _ rfl)))⟩)
              rw [hFn] at hturn
              have hroot : ∀ i u, rd w (L id).src i = some u → rd w' (L id).src i = some u := by
                intro i u hi
                cases hLi : L id with
                | vals vv => rw [hLi] at hi; exact hi
                | blk b0 =>
                  rw [hLi] at hi
                  simp only [Loc.src, rd] at hi ⊢
                  have hb0 : b0 ∉ f2 := by
                    intro hbf2
                    have h0 := hob
                    rw [hLi] at h0
                    cases ob with
                    | vir _ => exact h0.elim
                    | mem cc =>
                      obtain ⟨dd, ee, gg, hh1, hh2, hh3⟩ := h0
                      cases q with
                      | none =>
                        have hs : s = .mem b0 0 := by rw [show s = (L id).src from h4, hLi]; rfl
                        exact (dis b0 hbf2).1 (hmem b0 0 hs)
                      | some ci =>
                        -- the variable's own block comes first; f2 lies in what its cells own
                        obtain ⟨c, i⟩ := ci
                        obtain ⟨b9, o9, hs⟩ : ∃ b o, s = .mem b o := by obtain ⟨_, _, _, _, _, _, _, _, he⟩ := h4; exact ⟨_, _, he⟩
                        have hpl := (ObRep.place (l := L id) hob h2)
                        rw [hLi] at hob
                        have hinner : b0 ∈ gg := by
                          have hmemF : RepL w (C.A G) C.hv cc dd.toList gg := hh2
                          -- the row's blocks are among the cells' own
                          simp only [row, Ob.cells] at h2
                          split at h2
                          · rename_i k5 s5 d5 hc5
                            split at h2
                            · rename_i hle5
                              obtain ⟨v5, v6, v7, E1, E2, E3, _, _, _, hgg, _, e2, _⟩ := RepL.at hmemF hc5
                              exact (by
                                have hFF : G id = b0 :: gg := hh3
                                rw [t3] at hFF
                                -- Fa is not empty: its head is b0
                                cases hFa : Fa with
                                | nil =>
                                  have := hmem b9 o9 hs
                                  rw [hFa] at this
                                  cases this
                                | cons z zs =>
                                  rw [hFa] at hFF
                                  simp only [List.cons_append] at hFF
                                  have hz := (List.cons.inj hFF).2
                                  rw [← hz]
                                  simp [hbf2])
                            · cases h2
                          · cases h2
                        have hnd2 : (b0 :: gg).Nodup := by rw [← hh3]; exact h.nd id
                        exact (List.nodup_cons.1 hnd2).1 hinner
                  have hlb : b0 < w.heap.size := by
                    have := cell_some_lt hi
                    exact this
                  rw [cell_congr (hunch b0 hlb hb0)]
                  exact hi
              have hlen' : (ob.with (setRow q ob.cells (over rs j new))).cells.length = ob.cells.length := by rw [with_cells, setRow_length h2 hovl]
              have hkeepo : ∀ i, i ≠ id → ∀ k ∈ G i, w'.heap[k]? = w.heap[k]? := fun i hi k hk => hunch k (hlt i k hk) (fun hc => hi (h.dj i id k hk (hf2G k hc)))
              have hsim := h.chgE id (ob.with (setRow q ob.cells (over rs j new))) Fn (killM id X.env) hext' hFnd hFns hturn (fun t x hx => by
                obtain ⟨hx1, hx2⟩ := lk_killM hx
                refine ⟨hx1, ?_⟩
                have hrep0 := h.en t x hx1
                have hU : ∀ (u : T) (v : Value), (∀ ts, u ≠ .tup ts) → okM id u = true → RepU w (C.A G) C.hv L X.sg u v → RepU w' (C.A (upd G id Fn)) C.hv L (ins X.sg id (ob.with (setRow q ob.cells (over rs j new)))) u v := by
                  intro u v hnt hok hu
                  have hfr : id ∉ refU u → RepU w' (C.A (upd G id Fn)) C.hv L (ins X.sg id (ob.with (setRow q ob.cells (over rs j new)))) u v := fun hni =>
                    RepU.frame (fun b hb hk => ⟨hA b hk hb, hunch b hb (hAf2 b hk)⟩) h.ob u v hu (fun i hi o' ho' => by
                      have e : i ≠ id := fun e => hni (e ▸ hi)
                      rw [lk_ins, if_neg (Ne.symm e)] at ho'
                      exact ⟨o', ho', rfl, fun cs e => ⟨cs, e⟩, .inr (.inr ⟨.refl _, hkeepo i e⟩)⟩)
                  by_cases hid : id ∈ refU u
                  · cases u with
                    | dat g cs => cases hid
                    | tup ts => exact absurd rfl (hnt ts)
                    | dp cs => cases hid
                    | pl i' q' j' =>
                      simp only [refU, List.mem_singleton] at hid
                      subst hid
                      have hq' : q' = none := by simpa [okM] using hok
                      subst hq'
                      intro o' ho' rs' hrs'
                      obtain ⟨b, o9, z1, z2⟩ := hu ob h1 ob.cells rfl
                      exact ⟨b, o9, z1, z2⟩
                    | bor i' q' j' n' g' =>
                      simp only [refU, List.mem_singleton] at hid
                      subst hid
                      have hq' : q' = none := by simpa [okM] using hok
                      subst hq'
                      intro o' ho' rs' hrs' hjn
                      rw [lk_ins, if_pos rfl] at ho'
                      cases ho'
                      cases hrs'
                      obtain ⟨s0, vs0, z1, z2, z3, z4⟩ := hu ob h1 ob.cells rfl (by rw [hlen'] at hjn; exact hjn)
                      have hs0 : s0 = (L id).src := z1
                      subst hs0
                      refine ⟨_, vs0, rfl, z2, fun i hi => ?_, z4⟩
                      have h5 := z3 i hi
                      rw [List.getElem?_eq_getElem (by omega)] at h5 ⊢
                      exact hroot _ _ h5
                    | clo f cs9 =>
                      obtain ⟨us9, rfl, hc9⟩ := hu
                      refine ⟨us9, rfl, caps.frame (fun b hb hk => ⟨hA b hk hb, hunch b hb (hAf2 b hk)⟩) cs9 us9 (fun i hi y hy => ?_) hc9⟩
                      by_cases e : i = id
                      · subst e
                        rw [lk_ins, if_pos rfl] at hy
                        cases ob with
                        | vir cc => cases hy
                        | mem cc => exact ⟨cc, h1, rfl⟩
                      · rw [lk_ins, if_neg (Ne.symm e)] at hy
                        exact ⟨y, hy, rfl⟩
                  · exact hfr hid
                cases x with
                | tup ts0 =>
                  obtain ⟨vv, hv, hl, hk⟩ := hrep0
                  refine ⟨vv, hv, hl, fun i t' u' ht hu => ?_⟩
                  have hni : id ∉ refU t' := by
                    have := List.all_eq_true.1 hx2 t' (List.mem_of_getElem? ht)
                    simpa using this
                  have hu' := hk i t' u' ht hu
                  cases t' with
                  | tup _ => exact hu'.elim
                  | dat g9 c9 => exact hU (.dat g9 c9) _ (fun _ e => nomatch e) rfl hu'
                  | dp c9 => exact hU (.dp c9) _ (fun _ e => nomatch e) rfl hu'
                  | clo f9 c9 => exact hU (.clo f9 c9) _ (fun _ e => nomatch e) rfl hu'
                  | pl i9 q9 j9 => exact hU (.pl i9 q9 j9) _ (fun _ e => nomatch e) (by simp only [refU, List.mem_singleton] at hni; simp [okM, hni]) hu'
                  | bor i9 q9 j9 n9 g9 => exact hU (.bor i9 q9 j9 n9 g9) _ (fun _ e => nomatch e) (by simp only [refU, List.mem_singleton] at hni; simp [okM, hni]) hu'
                | dat g9 c9 => exact hU (.dat g9 c9) _ (fun _ e => nomatch e) hx2 hrep0
                | dp c9 => exact hU (.dp c9) _ (fun _ e => nomatch e) hx2 hrep0
                | pl i9 q9 j9 => exact hU (.pl i9 q9 j9) _ (fun _ e => nomatch e) hx2 hrep0
                | bor i9 q9 j9 n9 g9 => exact hU (.bor i9 q9 j9 n9 g9) _ (fun _ e => nomatch e) hx2 hrep0
                | clo f9 c9 => exact hU (.clo f9 c9) _ (fun _ e => nomatch e) hx2 hrep0)
              exact hK _ _ ⟨L, upd G id Fn, hsim.put hdc.2.1 hdc.1 (x := rtM r) (by
                cases r with
                | some r => exact ⟨rfl, [r], ⟨r, [], [], [], rfl, rfl, ⟨rfl, hdc.2.2, rfl⟩, rfl, rfl⟩, rfl⟩
                | none => exact ⟨#[], rfl, rfl, fun i t u ht => by simp at ht⟩) (fun i hi => by cases r <;> cases hi)⟩
            · cases ha
          · cases ha
      · cases hp
    · cases hp
  · cases hp
end
end Go.Proofs.Ytppfilhlblnmcaa.Abs
/- An abstract machine for the walks, part 41: into a function that writes into what it is handed, and out of it; rules. No condition. -/
set_option linter.unusedVariables false
namespace Go.Proofs.Ytppfilhlblnmcaa.Abs
open Go

structure GoodM (C : Cx) (g : Bool) (cs : List Cell) (v : List Value) (r : Option Value) (cs' : List Cell) (F : List Nat) : Prop where
  ex : ∃ u us, C.vs = u :: v ∧ mkv g us u ∧ RepL C.w0 C.A0 hv0 cs us F ∧ C.hv = (fun n => us.getD n undef) ∧
    C.post = fun x w' => ∃ F', x = rvM r ∧ VRep w' (After C.A0 C.w0.heap.size F') g cs' u F' ∧ F'.Nodup ∧ (∀ b ∈ F', b ∈ F ∨ C.w0.heap.size ≤ b) ∧ Ext (· ∈ F) C.w0 w'
  f0 : C.F0 = (· ∈ F)
  na : ∀ b ∈ F, ¬ C.A0 b
  lt : ∀ b, C.A0 b → b < C.w0.heap.size
def entX : Nat → List Value → List (Nat × T)
  | _, [] => []
  | i, v :: r => (i, .dat false [.sc v]) :: entX (i + 1) r
theorem entX_lk : ∀ (vs : List Value) (i t : Nat) (x : T), lk (entX i vs) t = some x → i ≤ t ∧ ∃ v, vs[t - i]? = some v ∧ x = .dat false [.sc v]
  | [], i, t, x, h => by cases h
  | v :: r, i, t, x, h => by
    simp only [entX, lk] at h
    split at h
    · rename_i e
      subst e
      cases h
      exact ⟨Nat.le_refl _, v, by simp, rfl⟩
    · obtain ⟨h1, v', h2, h3⟩ := entX_lk r (i + 1) t x h
      exact ⟨by omega, v', by rw [show t - i = (t - (i + 1)) + 1 by omega, List.getElem?_cons_succ]; exact h2, h3⟩
def entryM (g : Bool) (cs : List Cell) (v : List Value) : St := ⟨(0, .bor 0 none 0 cs.length g) :: entX 1 v, [(0, .vir (pinL 0 cs))]⟩
theorem pinL_length : ∀ (p : Nat) (cs : List Cell), (pinL p cs).length = cs.length
  | _, [] => rfl
  | p, .hole :: r => by simp [pinL, pinL_length (p + 1) r]
  | p, .sc _ :: r => by simp [pinL, pinL_length (p + 1) r]
  | p, .sl none _ _ :: r => by simp [pinL, pinL_length (p + 1) r]
  | p, .sl (some _) _ _ :: r => by simp [pinL, pinL_length (p + 1) r]

theorem MCalls.enter {P : Program} {f : FuncId} {fn : Func} {c : Code} {g : Bool} {cs cs' : List Cell} {v : List Value} {r : Option Value} (hf : P.funcs[f]? = some fn) (hn : (fn.name == "runtime.NumGoroutine") = false) (hb : fn.body = some c) (hnt : v.length + 1 ≤ fn.ntmps) (hv : ∀ x ∈ v, flat x = true)
    (h : ∀ C F, GoodM C g cs v r cs' F → C.P = P → C.fid = f → C.nt = fn.ntmps → C.fx = [] → Ok C [.code c] (entryM g cs v)) : MCalls P f g cs v r cs' := by
  refine ⟨⟨fn, hf, hn, by rw [hb]; rfl⟩, fun w A u F has hF hna hlt cs9 => ?_⟩
  obtain ⟨us, hR, hmk⟩ := has
  let C : Cx := { P := P, fid := f, nt := fn.ntmps, w0 := w, F0 := (· ∈ F), A0 := A, hv := fun n => us.getD n undef, vs := u :: v, fx := [], post := fun x w' => ∃ F', x = rvM r ∧ VRep w' (After A w.heap.size F') g cs' u F' ∧ F'.Nodup ∧ (∀ b ∈ F', b ∈ F ∨ w.heap.size ≤ b) ∧ Ext (· ∈ F) w w' }
  have hC : GoodM C g cs v r cs' F := ⟨⟨u, us, rfl, hmk, hR, rfl, rfl⟩, rfl, hna, hlt⟩
  let L : Nat → Loc := fun _ => .vals us
  let G : Nat → List Nat := fun i => if i = 0 then F else []
  have hA : ∀ b, A b → C.A G b := fun b hb => ⟨.inl hb, fun i hi => by
    by_cases e : i = 0
    · simp only [G, if_pos e] at hi; exact hna b hi hb
    · simp only [G, if_neg e] at hi; cases hi⟩
  have hlk : ∀ i o, lk [((0 : Nat), Ob.vir (pinL 0 cs))] i = some o → i = 0 ∧ o = .vir (pinL 0 cs) := by
    intro i o hi
    simp only [lk] at hi
    split at hi
    · rename_i e; cases hi; exact ⟨e.symm, rfl⟩
    · cases hi
  have hin : In C (entryM g cs v) { tmps := (u :: v).toArray ++ Array.replicate (fn.ntmps - (v.length + 1)) undef, defers := [] } w := by
    refine ⟨L, G, { ob := fun i o hi => ?_, no := fun i hi => ?_, nd := fun i => ?_, dj := fun i j b hi hj => ?_, own := fun i b hb => ?_, en := fun t x hx => ?_, rf := fun t x hx i hi => ?_, fr := .refl _ _, df := rfl, fx := (fun i hi => nomatch hi), nt := ?_ }⟩
    · obtain ⟨rfl, rfl⟩ := hlk i o hi
      show RepL w (C.A G) C.hv (pinL 0 cs) us F
      refine RepL.pin 0 (RepL.frame _ _ _ hR (fun _ _ _ => rfl) (fun b _ hb => hA b hb)) (fun n u hu => ?_)
      show us.getD (0 + n) undef = u
      rw [Nat.zero_add, List.getD_eq_getElem?_getD, hu]
      rfl
    · have : i ≠ 0 := fun e => by subst e; simp [entryM, lk] at hi
      simp only [G, if_neg this]
    · by_cases e : i = 0
      · simp only [G, if_pos e]; exact hF
      · simp only [G, if_neg e]; exact List.nodup_nil
    · by_cases e : i = 0
      · by_cases e2 : j = 0
        · rw [e, e2]
        · simp only [G, if_neg e2] at hj; cases hj
      · simp only [G, if_neg e] at hi; cases hi
    · by_cases e : i = 0
      · simp only [G, if_pos e] at hb; exact .inl hb
      · simp only [G, if_neg e] at hb; cases hb
    · simp only [entryM, lk] at hx
      split at hx
      · rename_i e
        subst e
        cases hx
        have hg : ({ tmps := (u :: v).toArray ++ Array.replicate (fn.ntmps - (v.length + 1)) undef, defers := [] } : Act).tmps.getD 0 undef = u := by
          rw [Array.getD_eq_getD_getElem?, Array.getElem?_append_left (by simp)]; rfl
        rw [hg]
        intro ob ho rs hrs hle
        obtain ⟨_, rfl⟩ := hlk 0 ob ho
        exact ⟨.vals us, us, rfl, RepL.length hR, fun i hi => by rw [Nat.zero_add]; rfl, hmk⟩
      · obtain ⟨h1, v', h2, rfl⟩ := entX_lk v 1 t x hx
        have hlt : t - 1 < v.length := (List.getElem?_eq_some_iff.1 h2).1
        have hg : ({ tmps := (u :: v).toArray ++ Array.replicate (fn.ntmps - (v.length + 1)) undef, defers := [] } : Act).tmps.getD t undef = v' := by
          rw [Array.getD_eq_getD_getElem?, Array.getElem?_append_left (by simp; omega)]
          have : (u :: v)[t]? = some v' := by rw [show t = (t - 1) + 1 by omega, List.getElem?_cons_succ]; exact h2
          simp [this]
        rw [hg]
        exact ⟨rfl, [v'], ⟨v', [], [], [], rfl, rfl, ⟨rfl, hv v' (List.mem_of_getElem? h2), rfl⟩, rfl, rfl⟩, rfl⟩
    · simp only [entryM, lk] at hx
      split at hx
      · cases hx
        simp only [refs, refU, List.mem_singleton] at hi
        subst hi
        simp [entryM, lk]
      · obtain ⟨_, v', _, rfl⟩ := entX_lk v 1 t x hx
        cases hi
    · simp only [Array.size_append, List.size_toArray, Array.size_replicate]
      show v.length + 1 + (fn.ntmps - (v.length + 1)) = fn.ntmps
      omega
  obtain ⟨v', w', fr, h1, h2, h3, h4⟩ := h C F hC rfl rfl rfl rfl _ w hin cs9
  refine ⟨.returned v', w', fr, ?_, ?_, h3, h4⟩
  · obtain ⟨F', rfl, q2, q3, q4, q5⟩ := h1
    exact ⟨F', rfl, q2, q3, q4, q5⟩
  have henter : Frame.enter P f (u :: v).toArray .normal = C.fr.at { tmps := (u :: v).toArray ++ Array.replicate (fn.ntmps - (v.length + 1)) undef, defers := [] } [.code c] := by
    simp [Frame.enter, Frame.at, hf, hb, Cx.fr, C]
  rw [henter]
  exact h2

section
variable {an : An} {C : Cx} {P : Program} {nt : Nat} {fx vs : List Nat} {X X' : St} {ops : Array Oper} {K : List Item}
/-- What a function's results are told by. -/
def resM (X : St) : List ResultVar → Option (Option Value)
  | [] => some none
  | [.tmp t] => match lk X.env t with
    | some (.dat false [.sc r]) => some (some r)
    | _ => none
  | _ => none
theorem GoodM.leave {g : Bool} {cs cs' : List Cell} {v : List Value} {r : Option Value} {F : List Nat} (hC : GoodM C g cs v r cs' F) {fn : Func} (ht : resM X fn.results.toList = some r) {id : Nat} {ob : Ob} (hid : lk X.sg id = some ob) (hu : unpin 0 cs ob.cells = some cs') :
    ∀ a w, In C X a w → ∃ v, (results fn a.tmps).run C.P w = .ok v w ∧ C.post v w := by
  rintro a w ⟨L, G, h⟩
  obtain ⟨u, us, hvs, hmk, hR, hhv, hpost⟩ := hC.ex
  have hval : ∃ us, us.length = fn.results.toList.length ∧ (∀ (k : Nat) rv u, fn.results.toList[k]? = some rv → us[k]? = some u → ResIs C.P w a.tmps rv u) ∧ resVal us = rvM r := by
    unfold resM at ht
    split at ht
    · rename_i hl
      cases ht
      rw [hl]
      exact ⟨[], rfl, (fun k rv u hr => by simp at hr), rfl⟩
    · rename_i t hl
      split at ht
      · rename_i r' he
        cases ht
        rw [hl]
        refine ⟨[r'], rfl, fun k rv u hr hu => ?_, rfl⟩
        cases k with
        | zero =>
          cases hr
          cases hu
          obtain ⟨_, vs, hR, hm⟩ := h.en t _ he
          cases hm
          exact (RepL.one hR).1.symm
        | succ k => cases hu
      · cases ht
    · cases ht
  obtain ⟨us9, v1, v2, v3⟩ := hval
  have hob := h.ob id ob hid
  obtain ⟨us2, g2, k1, k2, k3⟩ : ∃ us2 g2, RepL w (C.A G) C.hv ob.cells us2 g2 ∧ (∀ b ∈ g2, b ∈ G id) ∧ g2.Nodup := by
    cases hL : L id with
    | blk b =>
      rw [hL] at hob
      cases ob with
      | vir _ => exact hob.elim
      | mem ds =>
        obtain ⟨c, e, g0, h1, h2, h3⟩ := hob
        have hnd := h.nd id
        rw [h3] at hnd
        exact ⟨c.toList, g0, h2, fun b hb => by rw [h3]; exact List.mem_cons_of_mem _ hb, (List.nodup_cons.1 hnd).2⟩
    | vals vv =>
      rw [hL] at hob
      cases ob with
      | mem _ => exact hob.elim
      | vir ds => exact ⟨vv, G id, hob, fun b hb => hb, h.nd id⟩
  refine ⟨rvM r, v3 ▸ resultsRun v1 v2, ?_⟩
  rw [hpost]
  have hA2 : ∀ b, C.A G b → After C.A0 C.w0.heap.size g2 b := fun b hb => ⟨hb.1, fun hc => hb.2 id (k2 b hc)⟩
  have hD : ∀ b, b < C.w0.heap.size → C.A0 b → After C.A0 C.w0.heap.size g2 b ∧ w.heap[b]? = C.w0.heap[b]? := by
    intro b hb hA0
    have hnF : ¬ C.F0 b := by rw [hC.f0]; exact fun hm => hC.na b hm hA0
    refine ⟨⟨.inl hA0, fun hi => ?_⟩, h.fr.block b hb hnF⟩
    rcases h.own id b (k2 b hi) with h1 | h1
    · exact hnF h1
    · omega
  refine ⟨g2, rfl, ⟨us, RepL.unpin (w := C.w0) (A := C.A0) hD 0 hR (RepL.frame _ _ _ k1 (fun _ _ _ => rfl) (fun b _ hb => hA2 b hb)) (fun n x hx => ?_) hu, hmk⟩, k3, fun b hb => ?_, ?_⟩
  · rw [hhv, Nat.zero_add]
    show us.getD n undef = x
    rw [List.getD_eq_getElem?_getD, hx]
    rfl
  · have := h.own id b (k2 b hb)
    rw [hC.f0] at this
    exact this
  · have := h.fr
    rw [hC.f0] at this
    exact this

structure BE2 (p : Prop) : Prop where
  out : p
theorem BE2.go {p : Prop} (h : p := by simp only [entryM, entX, pinL, List.length_cons, List.length_nil, Nat.reduceAdd, Nat.zero_add]; rfl) : BE2 p := ⟨h⟩
def flatL : List Value → Bool
  | [] => true
  | v :: r => flat v && flatL r
theorem flatL_spec : ∀ {l : List Value}, flatL l = true → ∀ x ∈ l, flat x = true
  | [], _, x, hx => nomatch hx
  | v :: r, h, x, hx => by
    simp only [flatL, Bool.and_eq_true] at h
    rcases List.mem_cons.1 hx with rfl | hx
    · exact h.1
    · exact flatL_spec h.2 x hx
theorem MCalls.en {f : Nat} {fn : Func} {c : Code} {g : Bool} {cs cs' : List Cell} {v : List Value} {r : Option Value} {E : St} (hf : P.funcs[f]? = some fn) (hnt : fn.ntmps = nt) (hn : BK ((fn.name == "runtime.NumGoroutine") = false)) (hb : BR (fn.body = some c)) (hl : BR (Nat.ble (v.length + 1) nt = true)) (hv : BR (flatL v = true)) (he : BE2 (entryM g cs v = E))
    (h : ∀ C F, Hold (GoodM C g cs v r cs' F) → C.P = P → P.funcs[C.fid]? = some fn → C.nt = nt → C.fx = [] → Ok C [.code c] E) : MCalls P f g cs v r cs' :=
  MCalls.enter hf hn.out hb.out (hnt ▸ Nat.le_of_ble_eq_true hl.out) (flatL_spec hv.out) fun C F hC hP hi hn' hx => he.out ▸ h C F ⟨hC⟩ hP (hi ▸ hf) (hn'.trans hnt) hx
theorem Ok.bkm {rv : Array ResultVar} (kr : KR rv) {g : Bool} {cs cs' cs2 : List Cell} {v : List Value} {r r' : Option Value} {F : List Nat} (hC : GoodM C g cs v r cs' F) (hP : C.P = P) {fn : Func} (hf : P.funcs[C.fid]? = some fn) (id : Nat) {ob : Ob} (hrv : BR (fn.results = rv)) (ht : BS (resM X rv.toList = some r')) (hid : BS (lk X.sg id = some ob)) (hu : BS (unpin 0 cs ob.cells = some cs2)) (e1 : B1 (r' = r)) (e2 : B1 (cs2 = cs')) : Ok C (.code .ret :: K) X :=
  Ok.ret (hP ▸ hf) (hC.leave (by rw [hrv.out, ← e1.out]; exact ht.out) hid.out (e2.out ▸ hu.out))
theorem Ok.endm {rv : Array ResultVar} (kr : KR rv) {g : Bool} {cs cs' cs2 : List Cell} {v : List Value} {r r' : Option Value} {F : List Nat} (hC : GoodM C g cs v r cs' F) (hP : C.P = P) {fn : Func} (hf : P.funcs[C.fid]? = some fn) (id : Nat) {ob : Ob} (hrv : BR (fn.results = rv)) (ht : BS (resM X rv.toList = some r')) (hid : BS (lk X.sg id = some ob)) (hu : BS (unpin 0 cs ob.cells = some cs2)) (e1 : B1 (r' = r)) (e2 : B1 (cs2 = cs')) : Ok C [] X :=
  Ok.done (hP ▸ hf) (hC.leave (by rw [hrv.out, ← e1.out]; exact ht.out) hid.out (e2.out ▸ hu.out))

theorem goE.m {i : Nat} {o : Oper} (ho : ops[i]? = some o) (hc : isCall o.op = true) (hw : want X ops o = some true) (hs : SemStep C X o X') (h : goE an C ops K (i + 1) X') : goE an C ops K i X := by
  intro n hN
  subst hN
  have hlt : i < ops.size := (Array.getElem?_eq_some_iff.1 ho).1
  rw [show ops.size - i = (ops.size - (i + 1)) + 1 by omega, List.range'_succ]
  unfold goR
  rw [ho]
  simp only [hw, hc]
  exact .inl ⟨X', hs, h _ rfl⟩
theorem goQ.m (hP : C.P = P) (hn : C.nt = nt) (hx : C.fx = fx) {i : Nat} {o : Oper} {x : Operand} {y : List Operand} {as : Array Operand} {ts : Array TypeId} {fid : FuncId} {d : Option Tmp} {id j n : Nat} {q : Option (Nat × Nat)} {g : Bool} {cs cs1 cs' : List Cell} {v : List Value} {r : Option Value} (hop : BR (o.op = .call { callee := .value (.func fid), args := as, argTypes := ts })) (has : BR (as.toList = x :: y)) (hd : BR (o.dst = d)) (hp : BS (prepM X x y = some (id, q, j, n, g, cs, v))) (hl : BS (lowL cs = cs1))
    (hc : MCalls P fid g cs1 v r cs') (ha : BS (afterM nt fx X id q j n cs cs' r d = some X')) (h : goE an C ops K (i + 1) X') : goQ an C ops K i o true X := by
  intro ho hw
  refine goE.m ho (by rw [hop.out]; rfl) hw (SemStep.callM hop.out has.out hp.out (hP ▸ hl.out ▸ hc) ?_) h
  rw [hd.out, hn, hx]
  exact ha.out
theorem goQD.m (hP : C.P = P) (hn : C.nt = nt) (hx : C.fx = fx) {i : Nat} {q0 : List Nat} {r0 : List (Nat × Option (List Nat))} {o : Oper} {x : Operand} {y : List Operand} {as : Array Operand} {ts : Array TypeId} {fid : FuncId} {d : Option Tmp} {id j n : Nat} {q : Option (Nat × Nat)} {g : Bool} {cs cs1 cs' : List Cell} {v : List Value} {r : Option Value} (hop : BR (o.op = .call { callee := .value (.func fid), args := as, argTypes := ts })) (has : BR (as.toList = x :: y)) (hd : BR (o.dst = d)) (hp : BS (prepM X x y = some (id, q, j, n, g, cs, v))) (hl : BS (lowL cs = cs1))
    (hc : MCalls P fid g cs1 v r cs') (ha : BS (afterM nt fx X id q j n cs cs' r d = some X')) (hq : BQ (stabE P nt fx ops X' q0)) (h : goD an C ops K r0 X') : goQD an C ops K q0 r0 i o true X := by
  intro ho hw
  have hs : SemStep C X o X' := SemStep.callM hop.out has.out hp.out (hP ▸ hl.out ▸ hc) (by rw [hd.out, hn, hx]; exact ha.out)
  unfold goD
  rw [ho]
  have hic : isCall o.op = true := by rw [hop.out]; rfl
  simp only [hw, hic]
  exact .inl ⟨X', hs, stabE_ok hP hn hx hq.out, h⟩
end
theorem u8_wrap (n : Int) : IntKind.u8.wrap n = n % 256 := by simp [IntKind.wrap, IntKind.bits, IntKind.signed]
attribute [go_sem] u8_wrap bytesC scalL rtM rfM resM prepM afterM lowL low1 lowOk repin unpin killM okM pinL
end Go.Proofs.Ytppfilhlblnmcaa.Abs
/- An abstract machine for the walks, part 42: the walk as one closing step, with calls that write into what they are handed. No condition. -/
set_option linter.unusedVariables false
namespace Go.Proofs.Ytppfilhlblnmcaa.Abs
open Go
structure BZs (p : Prop) : Prop where
  out : p
theorem BZs.go {p : Prop} (h : p := by
    repeat (first
      | (apply Ok.mtk m0 hj0; exact BT.go; (repeat apply Exists.intro); apply and3; (focus (first | rfl | (simp (disch := omega) only [go_sem, ↓reduceIte, eq_self, and_self]; done))); (first | exact H.out | (have h0 := H.out; simp only [*, go_sem, ↓reduceIte, reduceCtorEq] at h0 ⊢; exact h0)); omega; done)
      | (apply Ok.mtk m1 hj1; exact BT.go; (repeat apply Exists.intro); apply and3; (focus (first | rfl | (simp (disch := omega) only [go_sem, ↓reduceIte, eq_self, and_self]; done))); (first | exact H.out | (have h0 := H.out; simp only [*, go_sem, ↓reduceIte, reduceCtorEq] at h0 ⊢; exact h0)); omega; done)
      | (apply Ok.mtk m2 hj2; exact BT.go; (repeat apply Exists.intro); apply and3; (focus (first | rfl | (simp (disch := omega) only [go_sem, ↓reduceIte, eq_self, and_self]; done))); (first | exact H.out | (have h0 := H.out; simp only [*, go_sem, ↓reduceIte, reduceCtorEq] at h0 ⊢; exact h0)); omega; done)
      | (apply Ok.mtk m3 hj3; exact BT.go; (repeat apply Exists.intro); apply and3; (focus (first | rfl | (simp (disch := omega) only [go_sem, ↓reduceIte, eq_self, and_self]; done))); (first | exact H.out | (have h0 := H.out; simp only [*, go_sem, ↓reduceIte, reduceCtorEq] at h0 ⊢; exact h0)); omega; done)
      | apply Ok.seq
      | apply Ok.skip
      | (apply Ok.rNk kp hP hn hx; exact BR.go; exact BV.go)
      | apply Ok.gS
      | (apply Ok.cn; exact BS.go)
      | apply Ok.block
      | apply Ok.inBlock
      | (apply Ok.ex; exact BR.go)
      | (apply Ok.gDk kd0 hP mo; exact BK.go)
      | (apply Ok.gDk kd1 hP mo; exact BK.go)
      | (apply Ok.gDk kd2 hP mo; exact BK.go)
      | (apply Ok.gDk kd3 hP mo; exact BK.go)
      | (apply Ok.gDk kd4 hP mo; exact BK.go)
      | (apply Ok.gDk kd5 hP mo; exact BK.go)
      | (apply Ok.gDk kd6 hP mo; exact BK.go)
      | (apply Ok.gDk kd7 hP mo; exact BK.go)
      | (apply Ok.rDk kp hP hn hx mo; exact BK.go; exact BX.go)
      | (apply goE.ek kp hP hn hx; exact BR.go; exact BV.go)
      | (apply goE.n hP hn hx; exact BR.go; exact BJ.go; exact BU.go)
      | (apply goE.q; exact BR.go; exact BG.go; exact BW.go)
      | (apply goQ.m hP hn hx; exact BR.go; exact BR.go; exact BR.go; exact BS.go; exact BS.go; (first | exact d0.out (by assumption) | exact d1.out (by assumption) | exact d2.out (by assumption) | exact d3.out (by assumption) | exact d4.out (by assumption) | exact d5.out (by assumption) | exact d6.out (by assumption) | exact d7.out (by assumption) | exact d8.out (by assumption) | exact d9.out (by assumption)); exact BS.go)
      | (apply goQ.t hP; exact BR.go; exact BR.go; exact BS.go)
      | (apply goQ.f hn hx; exact BR.go; exact BR.go; exact BE.go)
      | (apply goD.zk kp; exact BT.go)
      | (apply goD.n hP hn hx; exact BN.go)
      | (apply goD.q; exact BR.go; exact BG.go; exact BW.go)
      | (apply goQD.m hP hn hx; exact BR.go; exact BR.go; exact BR.go; exact BS.go; exact BS.go; (first | exact d0.out (by assumption) | exact d1.out (by assumption) | exact d2.out (by assumption) | exact d3.out (by assumption) | exact d4.out (by assumption) | exact d5.out (by assumption) | exact d6.out (by assumption) | exact d7.out (by assumption) | exact d8.out (by assumption) | exact d9.out (by assumption)); exact BS.go; exact BQ.go)
      | (apply goQD.t hP; exact BR.go; exact BR.go; exact BS.go)
      | (apply goQD.f hP hn hx; exact BR.go; exact BR.go; exact BE.go; exact BQ.go)
      | (apply goD.x hP hn hx; exact BR.go; exact BG.go; exact BR.go; exact BW.go; exact BS.go; exact BQ.go)
      | (apply goK.k hP hn hx; (first | exact e0.out (by assumption) (by omega) | exact c0.out (by assumption) | exact c1.out (by assumption) | exact c2.out (by assumption) | exact c3.out (by assumption) | exact c4.out (by assumption) | exact c5.out (by assumption) | exact c6.out (by assumption) | exact c7.out (by assumption) | exact c8.out (by assumption) | exact c9.out (by assumption) | exact c10.out (by assumption) | exact c11.out (by assumption) | exact c12.out (by assumption) | exact c13.out (by assumption) | exact c14.out (by assumption) | exact c15.out (by assumption) | exact c16.out (by assumption) | exact c17.out (by assumption) | exact c18.out (by assumption) | exact c19.out (by assumption)); exact BS.go)
      | (apply goKD.k hP hn hx; (first | exact e0.out (by assumption) (by omega) | exact c0.out (by assumption) | exact c1.out (by assumption) | exact c2.out (by assumption) | exact c3.out (by assumption) | exact c4.out (by assumption) | exact c5.out (by assumption) | exact c6.out (by assumption) | exact c7.out (by assumption) | exact c8.out (by assumption) | exact c9.out (by assumption) | exact c10.out (by assumption) | exact c11.out (by assumption) | exact c12.out (by assumption) | exact c13.out (by assumption) | exact c14.out (by assumption) | exact c15.out (by assumption) | exact c16.out (by assumption) | exact c17.out (by assumption) | exact c18.out (by assumption) | exact c19.out (by assumption)); exact BS.go; exact BQ.go)
      | (apply Ok.gTk kt0 hP mo; exact BK.go; apply goT.sh; intro sh)
      | (apply Ok.gTk kt1 hP mo; exact BK.go; apply goT.sh; intro sh)
      | (apply goT.zs sh kp; exact BTs.go)
      | (apply goT.z kp; exact BT.go)
      | exact goT.x
      | apply goT.e
      | apply goT.m
      | (apply goP.n hP hn hx; exact BN.go)
      | apply goP.z
      | (apply goP.q; exact BR.go; exact BG.go; exact BW.go)
      | (apply goPQ.t hP; exact BR.go; exact BR.go; exact BS.go)
      | (apply goPQ.f hP hn hx; exact BR.go; exact BR.go; exact BE.go; exact BQ.go)
      | (apply goP.x hP hn hx; exact BR.go; exact BG.go; exact BR.go; exact BW.go; exact BS.go; exact BQ.go)
      | (apply goPK.k hP hn hx; (first | exact e0.out (by assumption) (by omega) | exact c0.out (by assumption) | exact c1.out (by assumption) | exact c2.out (by assumption) | exact c3.out (by assumption) | exact c4.out (by assumption) | exact c5.out (by assumption) | exact c6.out (by assumption) | exact c7.out (by assumption) | exact c8.out (by assumption) | exact c9.out (by assumption) | exact c10.out (by assumption) | exact c11.out (by assumption) | exact c12.out (by assumption) | exact c13.out (by assumption) | exact c14.out (by assumption) | exact c15.out (by assumption) | exact c16.out (by assumption) | exact c17.out (by assumption) | exact c18.out (by assumption) | exact c19.out (by assumption)); exact BS.go; exact BQ.go)
      | (apply Ok.bkm kr hC.out hP hF 0; exact BR.go; exact BS.go; exact BS.go; exact BS.go; exact B1.go; exact B1.go; done)
      | (apply Ok.bkm kr hC.out hP hF 1; exact BR.go; exact BS.go; exact BS.go; exact BS.go; exact B1.go; exact B1.go; done)
      | (apply Ok.bkm kr hC.out hP hF 2; exact BR.go; exact BS.go; exact BS.go; exact BS.go; exact B1.go; exact B1.go; done)
      | (apply Ok.endm kr hC.out hP hF 0; exact BR.go; exact BS.go; exact BS.go; exact BS.go; exact B1.go; exact B1.go; done)
      | (apply Ok.endm kr hC.out hP hF 1; exact BR.go; exact BS.go; exact BS.go; exact BS.go; exact B1.go; exact B1.go; done)
      | (apply Ok.endm kr hC.out hP hF 2; exact BR.go; exact BS.go; exact BS.go; exact BS.go; exact B1.go; exact B1.go; done)
      | (apply Ok.bkk kr hC.out hP hx hF; exact BR.go; exact BF.go; exact BF.go; exact BF.go; exact BM.go; exact BR.go; exact BR.go; exact BR.go; exact B1.go; exact BR.go)
      | (apply Ok.shE; exact BS.go; apply Ok.bkk kr hC.out hP hx hF; exact BR.go; exact BF.go; exact BF.go; exact BF.go; exact BM.go; exact BR.go; exact BR.go; exact BR.go; exact B1.go; exact BR.go)
      | (apply Ok.agk w0 ih0; exact BT.go; apply Exists.intro; apply andS; (repeat apply Exists.intro); apply and4; exact H.out; (focus (first | rfl | (simp (disch := omega) only [go_sem, ↓reduceIte, eq_self, and_self]; done))); omega; omega; done)
      | (apply Ok.agk w1 ih1; exact BT.go; apply Exists.intro; apply andS; (repeat apply Exists.intro); apply and4; exact H.out; (focus (first | rfl | (simp (disch := omega) only [go_sem, ↓reduceIte, eq_self, and_self]; done))); omega; omega; done)
      | (apply Ok.agk w2 ih2; exact BT.go; apply Exists.intro; apply andS; (repeat apply Exists.intro); apply and4; exact H.out; (focus (first | rfl | (simp (disch := omega) only [go_sem, ↓reduceIte, eq_self, and_self]; done))); omega; omega; done)
      | (apply Ok.agk w3 ih3; exact BT.go; apply Exists.intro; apply andS; (repeat apply Exists.intro); apply and4; exact H.out; (focus (first | rfl | (simp (disch := omega) only [go_sem, ↓reduceIte, eq_self, and_self]; done))); omega; omega; done)
      | (apply Ok.agk w4 ih4; exact BT.go; apply Exists.intro; apply andS; (repeat apply Exists.intro); apply and4; exact H.out; (focus (first | rfl | (simp (disch := omega) only [go_sem, ↓reduceIte, eq_self, and_self]; done))); omega; omega; done)
      | (apply Ok.agk w5 ih5; exact BT.go; apply Exists.intro; apply andS; (repeat apply Exists.intro); apply and4; exact H.out; (focus (first | rfl | (simp (disch := omega) only [go_sem, ↓reduceIte, eq_self, and_self]; done))); omega; omega; done)
      | (apply Ok.lqk w0 lp0; exact BT.go; (repeat apply Exists.intro); apply and4; exact H.out; (focus (first | rfl | (simp (disch := omega) only [go_sem, ↓reduceIte, eq_self, and_self]; done))); omega; done)
      | (apply Ok.lqk w1 lp1; exact BT.go; (repeat apply Exists.intro); apply and4; exact H.out; (focus (first | rfl | (simp (disch := omega) only [go_sem, ↓reduceIte, eq_self, and_self]; done))); omega; done)
      | (apply Ok.lqk w2 lp2; exact BT.go; (repeat apply Exists.intro); apply and4; exact H.out; (focus (first | rfl | (simp (disch := omega) only [go_sem, ↓reduceIte, eq_self, and_self]; done))); omega; done)
      | (apply Ok.lqk w3 lp3; exact BT.go; (repeat apply Exists.intro); apply and4; exact H.out; (focus (first | rfl | (simp (disch := omega) only [go_sem, ↓reduceIte, eq_self, and_self]; done))); omega; done)
      | (apply Ok.lqk w4 lp4; exact BT.go; (repeat apply Exists.intro); apply and4; exact H.out; (focus (first | rfl | (simp (disch := omega) only [go_sem, ↓reduceIte, eq_self, and_self]; done))); omega; done)
      | (apply Ok.lqk w5 lp5; exact BT.go; (repeat apply Exists.intro); apply and4; exact H.out; (focus (first | rfl | (simp (disch := omega) only [go_sem, ↓reduceIte, eq_self, and_self]; done))); omega; done))) : BZs p := ⟨h⟩
structure BZf (p : Prop) : Prop where
  out : p
theorem BZf.go {p : Prop} (h : p := by
    first
      | ((try clear lp0); (try clear lp1); (try clear lp2); (try clear lp3); (try clear lp4); (try clear lp5); cases H)
      | replace H := Hold.mk H
    all_goals (apply BZs.out; exact BZs.go)) : BZf p := ⟨h⟩
structure BZm (p : Prop) : Prop where
  out : p
theorem BZm.go {p : Prop} (h : p := by
    (try replace H := H.out)
    (try simp only [List.length_append, List.length_cons, List.length_nil, Nat.zero_add, beq_dec, bne_dec, Bool.or_eq_true, Bool.and_eq_true, Bool.not_eq_true', decide_eq_true_eq, decide_eq_false_iff_not, ite_or', ite_and', ite_not', ge_iff_le, gt_iff_lt] at H)
    repeat' first
      | (with_reducible replace H := sBindA H (by assumption))
      | (with_reducible replace H := sBindS H)
      | (with_reducible replace H := sBind H); obtain ⟨t, hA, H⟩ := H
      | (with_reducible replace H := sBool H); obtain ⟨c, H⟩ | ⟨c, H⟩ := H
      | (with_reducible replace H := sEq H); obtain ⟨c, c', H⟩ | ⟨c, c', H⟩ := H
      | (with_reducible replace H := sEqL H); obtain ⟨c, H⟩ | ⟨c, H⟩ := H
      | (with_reducible replace H := sIte H); obtain ⟨c, H⟩ | ⟨c, H⟩ := H
      | (with_reducible replace H := sAnd H); obtain ⟨c, H⟩ | ⟨c, H⟩ := H
      | (with_reducible replace H := sOr H); obtain ⟨c, H⟩ | ⟨c, H⟩ := H
    all_goals (apply BZf.out; exact BZf.go)) : BZm p := ⟨h⟩
structure BZnm (p : Prop) : Prop where
  out : p
theorem BZnm.go {p : Prop} (h : p := by
    (try replace H := H.out)
    (try simp only [List.length_append, List.length_cons, List.length_nil, Nat.zero_add, beq_dec, bne_dec, Bool.or_eq_true, Bool.and_eq_true, Bool.not_eq_true', decide_eq_true_eq, decide_eq_false_iff_not, ite_or', ite_and', ite_not', ge_iff_le, gt_iff_lt] at H)
    repeat' first
      | (with_reducible replace H := sBindA H (by assumption))
      | (with_reducible replace H := sBindS H)
      | (with_reducible replace H := sBind H); obtain ⟨t, hA, H⟩ := H
      | (with_reducible replace H := sBool H); obtain ⟨c, H⟩ | ⟨c, H⟩ := H
      | (with_reducible replace H := sEq H); obtain ⟨c, c', H⟩ | ⟨c, c', H⟩ := H
      | (with_reducible replace H := sEqL H); obtain ⟨c, H⟩ | ⟨c, H⟩ := H
      | (with_reducible replace H := sIte H); obtain ⟨c, H⟩ | ⟨c, H⟩ := H
      | (with_reducible replace H := sAnd H); obtain ⟨c, H⟩ | ⟨c, H⟩ := H
      | (with_reducible replace H := sOr H); obtain ⟨c, H⟩ | ⟨c, H⟩ := H
    all_goals (try (exfalso; clear H; omega))
    all_goals (apply BZf.out; exact BZf.go)) : BZnm p := ⟨h⟩
structure BZam (p : Prop) : Prop where
  out : p
theorem BZam.go {p : Prop} (h : p := by
    (try replace H := H.out)
    (try simp only [List.length_append, List.length_cons, List.length_nil, Nat.zero_add, beq_dec, bne_dec, Bool.or_eq_true, Bool.and_eq_true, Bool.not_eq_true', decide_eq_true_eq, decide_eq_false_iff_not, ite_or', ite_and', ite_not', ge_iff_le, gt_iff_lt] at H)
    repeat' first
      | (with_reducible replace H := sBindA H (by assumption))
      | (with_reducible replace H := sBindS H)
      | (with_reducible replace H := sBind H); obtain ⟨t, hA, H⟩ := H
      | (with_reducible replace H := sBool H); obtain ⟨c, H⟩ | ⟨c, H⟩ := H
      | (with_reducible replace H := sEq H); obtain ⟨c, c', H⟩ | ⟨c, c', H⟩ := H
      | (with_reducible replace H := sEqL H); obtain ⟨c, H⟩ | ⟨c, H⟩ := H
      | (with_reducible replace H := sIte H); obtain ⟨c, H⟩ | ⟨c, H⟩ := H
      | (with_reducible replace H := sAnd H); obtain ⟨c, H⟩ | ⟨c, H⟩ := H
      | (with_reducible replace H := sOr H); obtain ⟨c, H⟩ | ⟨c, H⟩ := H
    all_goals (try simp only [List.length_append, List.length_cons, List.length_nil, Nat.zero_add] at *)
    all_goals (apply BZf.out; exact BZf.go)) : BZam p := ⟨h⟩
structure BZnam (p : Prop) : Prop where
  out : p
theorem BZnam.go {p : Prop} (h : p := by
    (try replace H := H.out)
    (try simp only [List.length_append, List.length_cons, List.length_nil, Nat.zero_add, beq_dec, bne_dec, Bool.or_eq_true, Bool.and_eq_true, Bool.not_eq_true', decide_eq_true_eq, decide_eq_false_iff_not, ite_or', ite_and', ite_not', ge_iff_le, gt_iff_lt] at H)
    repeat' first
      | (with_reducible replace H := sBindA H (by assumption))
      | (with_reducible replace H := sBindS H)
      | (with_reducible replace H := sBind H); obtain ⟨t, hA, H⟩ := H
      | (with_reducible replace H := sBool H); obtain ⟨c, H⟩ | ⟨c, H⟩ := H
      | (with_reducible replace H := sEq H); obtain ⟨c, c', H⟩ | ⟨c, c', H⟩ := H
      | (with_reducible replace H := sEqL H); obtain ⟨c, H⟩ | ⟨c, H⟩ := H
      | (with_reducible replace H := sIte H); obtain ⟨c, H⟩ | ⟨c, H⟩ := H
      | (with_reducible replace H := sAnd H); obtain ⟨c, H⟩ | ⟨c, H⟩ := H
      | (with_reducible replace H := sOr H); obtain ⟨c, H⟩ | ⟨c, H⟩ := H
    all_goals (try (exfalso; clear H; omega))
    all_goals (try simp only [List.length_append, List.length_cons, List.length_nil, Nat.zero_add] at *)
    all_goals (apply BZf.out; exact BZf.go)) : BZnam p := ⟨h⟩
structure BZcm (p : Prop) : Prop where
  out : p
theorem BZcm.go {p : Prop} (h : p := by
    repeat (first
      | exact Ok.cBk m0 pa0 pb0
      | exact Ok.cIk m0 pa0 pb0
      | exact Ok.cRk m0 pa0 pb0
      | exact Ok.cBk m1 pa1 pb1
      | exact Ok.cIk m1 pa1 pb1
      | exact Ok.cRk m1 pa1 pb1
      | exact Ok.cBk m2 pa2 pb2
      | exact Ok.cIk m2 pa2 pb2
      | exact Ok.cRk m2 pa2 pb2
      | exact Ok.cBk m3 pa3 pb3
      | exact Ok.cIk m3 pa3 pb3
      | exact Ok.cRk m3 pa3 pb3
      | (apply Ok.mtk m0 hj0; exact BT.go; (repeat apply Exists.intro); apply and3; (focus (first | rfl | (simp (disch := omega) only [go_sem, ↓reduceIte, eq_self, and_self]; done))); (first | exact H.out | (have h0 := H.out; simp only [*, go_sem, ↓reduceIte, reduceCtorEq] at h0 ⊢; exact h0)); omega; done)
      | (apply Ok.mtk m1 hj1; exact BT.go; (repeat apply Exists.intro); apply and3; (focus (first | rfl | (simp (disch := omega) only [go_sem, ↓reduceIte, eq_self, and_self]; done))); (first | exact H.out | (have h0 := H.out; simp only [*, go_sem, ↓reduceIte, reduceCtorEq] at h0 ⊢; exact h0)); omega; done)
      | (apply Ok.mtk m2 hj2; exact BT.go; (repeat apply Exists.intro); apply and3; (focus (first | rfl | (simp (disch := omega) only [go_sem, ↓reduceIte, eq_self, and_self]; done))); (first | exact H.out | (have h0 := H.out; simp only [*, go_sem, ↓reduceIte, reduceCtorEq] at h0 ⊢; exact h0)); omega; done)
      | (apply Ok.mtk m3 hj3; exact BT.go; (repeat apply Exists.intro); apply and3; (focus (first | rfl | (simp (disch := omega) only [go_sem, ↓reduceIte, eq_self, and_self]; done))); (first | exact H.out | (have h0 := H.out; simp only [*, go_sem, ↓reduceIte, reduceCtorEq] at h0 ⊢; exact h0)); omega; done)
      | apply Ok.seq
      | apply Ok.skip
      | (apply Ok.rNk kp hP hn hx; exact BR.go; exact BV.go)
      | apply Ok.gS
      | (apply Ok.cn; exact BS.go)
      | apply Ok.block
      | apply Ok.inBlock
      | (apply Ok.ex; exact BR.go)
      | (apply Ok.gDk kd0 hP mo; exact BK.go)
      | (apply Ok.gDk kd1 hP mo; exact BK.go)
      | (apply Ok.gDk kd2 hP mo; exact BK.go)
      | (apply Ok.gDk kd3 hP mo; exact BK.go)
      | (apply Ok.gDk kd4 hP mo; exact BK.go)
      | (apply Ok.gDk kd5 hP mo; exact BK.go)
      | (apply Ok.gDk kd6 hP mo; exact BK.go)
      | (apply Ok.gDk kd7 hP mo; exact BK.go)
      | (apply Ok.rDk kp hP hn hx mo; exact BK.go; exact BX.go)
      | (apply goE.ek kp hP hn hx; exact BR.go; exact BV.go)
      | (apply goE.n hP hn hx; exact BR.go; exact BJ.go; exact BU.go)
      | (apply goE.q; exact BR.go; exact BG.go; exact BW.go)
      | (apply goQ.m hP hn hx; exact BR.go; exact BR.go; exact BR.go; exact BS.go; exact BS.go; (first | exact d0.out (by assumption) | exact d1.out (by assumption) | exact d2.out (by assumption) | exact d3.out (by assumption) | exact d4.out (by assumption) | exact d5.out (by assumption) | exact d6.out (by assumption) | exact d7.out (by assumption) | exact d8.out (by assumption) | exact d9.out (by assumption)); exact BS.go)
      | (apply goQ.t hP; exact BR.go; exact BR.go; exact BS.go)
      | (apply goQ.f hn hx; exact BR.go; exact BR.go; exact BE.go)
      | (apply goD.zk kp; exact BT.go)
      | (apply goD.n hP hn hx; exact BN.go)
      | (apply goD.q; exact BR.go; exact BG.go; exact BW.go)
      | (apply goQD.m hP hn hx; exact BR.go; exact BR.go; exact BR.go; exact BS.go; exact BS.go; (first | exact d0.out (by assumption) | exact d1.out (by assumption) | exact d2.out (by assumption) | exact d3.out (by assumption) | exact d4.out (by assumption) | exact d5.out (by assumption) | exact d6.out (by assumption) | exact d7.out (by assumption) | exact d8.out (by assumption) | exact d9.out (by assumption)); exact BS.go; exact BQ.go)
      | (apply goQD.t hP; exact BR.go; exact BR.go; exact BS.go)
      | (apply goQD.f hP hn hx; exact BR.go; exact BR.go; exact BE.go; exact BQ.go)
      | (apply goD.x hP hn hx; exact BR.go; exact BG.go; exact BR.go; exact BW.go; exact BS.go; exact BQ.go)
      | (apply goK.k hP hn hx; (first | exact e0.out (by assumption) (by omega) | exact c0.out (by assumption) | exact c1.out (by assumption) | exact c2.out (by assumption) | exact c3.out (by assumption) | exact c4.out (by assumption) | exact c5.out (by assumption) | exact c6.out (by assumption) | exact c7.out (by assumption) | exact c8.out (by assumption) | exact c9.out (by assumption) | exact c10.out (by assumption) | exact c11.out (by assumption) | exact c12.out (by assumption) | exact c13.out (by assumption) | exact c14.out (by assumption) | exact c15.out (by assumption) | exact c16.out (by assumption) | exact c17.out (by assumption) | exact c18.out (by assumption) | exact c19.out (by assumption)); exact BS.go)
      | (apply goKD.k hP hn hx; (first | exact e0.out (by assumption) (by omega) | exact c0.out (by assumption) | exact c1.out (by assumption) | exact c2.out (by assumption) | exact c3.out (by assumption) | exact c4.out (by assumption) | exact c5.out (by assumption) | exact c6.out (by assumption) | exact c7.out (by assumption) | exact c8.out (by assumption) | exact c9.out (by assumption) | exact c10.out (by assumption) | exact c11.out (by assumption) | exact c12.out (by assumption) | exact c13.out (by assumption) | exact c14.out (by assumption) | exact c15.out (by assumption) | exact c16.out (by assumption) | exact c17.out (by assumption) | exact c18.out (by assumption) | exact c19.out (by assumption)); exact BS.go; exact BQ.go)
      | (apply Ok.gTk kt0 hP mo; exact BK.go; apply goT.sh; intro sh)
      | (apply Ok.gTk kt1 hP mo; exact BK.go; apply goT.sh; intro sh)
      | (apply goT.zs sh kp; exact BTs.go)
      | (apply goT.z kp; exact BT.go)
      | exact goT.x
      | apply goT.e
      | apply goT.m
      | (apply goP.n hP hn hx; exact BN.go)
      | apply goP.z
      | (apply goP.q; exact BR.go; exact BG.go; exact BW.go)
      | (apply goPQ.t hP; exact BR.go; exact BR.go; exact BS.go)
      | (apply goPQ.f hP hn hx; exact BR.go; exact BR.go; exact BE.go; exact BQ.go)
      | (apply goP.x hP hn hx; exact BR.go; exact BG.go; exact BR.go; exact BW.go; exact BS.go; exact BQ.go)
      | (apply goPK.k hP hn hx; (first | exact e0.out (by assumption) (by omega) | exact c0.out (by assumption) | exact c1.out (by assumption) | exact c2.out (by assumption) | exact c3.out (by assumption) | exact c4.out (by assumption) | exact c5.out (by assumption) | exact c6.out (by assumption) | exact c7.out (by assumption) | exact c8.out (by assumption) | exact c9.out (by assumption) | exact c10.out (by assumption) | exact c11.out (by assumption) | exact c12.out (by assumption) | exact c13.out (by assumption) | exact c14.out (by assumption) | exact c15.out (by assumption) | exact c16.out (by assumption) | exact c17.out (by assumption) | exact c18.out (by assumption) | exact c19.out (by assumption)); exact BS.go; exact BQ.go)
      | (apply Ok.bkm kr hC.out hP hF 0; exact BR.go; exact BS.go; exact BS.go; exact BS.go; exact B1.go; exact B1.go; done)
      | (apply Ok.bkm kr hC.out hP hF 1; exact BR.go; exact BS.go; exact BS.go; exact BS.go; exact B1.go; exact B1.go; done)
      | (apply Ok.bkm kr hC.out hP hF 2; exact BR.go; exact BS.go; exact BS.go; exact BS.go; exact B1.go; exact B1.go; done)
      | (apply Ok.endm kr hC.out hP hF 0; exact BR.go; exact BS.go; exact BS.go; exact BS.go; exact B1.go; exact B1.go; done)
      | (apply Ok.endm kr hC.out hP hF 1; exact BR.go; exact BS.go; exact BS.go; exact BS.go; exact B1.go; exact B1.go; done)
      | (apply Ok.endm kr hC.out hP hF 2; exact BR.go; exact BS.go; exact BS.go; exact BS.go; exact B1.go; exact B1.go; done)
      | (apply Ok.bkk kr hC.out hP hx hF; exact BR.go; exact BF.go; exact BF.go; exact BF.go; exact BM.go; exact BR.go; exact BR.go; exact BR.go; exact B1.go; exact BR.go)
      | (apply Ok.shE; exact BS.go; apply Ok.bkk kr hC.out hP hx hF; exact BR.go; exact BF.go; exact BF.go; exact BF.go; exact BM.go; exact BR.go; exact BR.go; exact BR.go; exact B1.go; exact BR.go))) : BZcm p := ⟨h⟩
attribute [go_sem] List.all_cons List.all_nil List.contains_nil List.contains_cons
end Go.Proofs.Ytppfilhlblnmcaa.Abs
/- An abstract machine for the walks, part 45: a contract that is known from elsewhere, told as a call. No condition. -/
set_option linter.unusedVariables false
namespace Go.Proofs.Ytppfilhlblnmcaa.Abs
open Go Go.RowKit
theorem VRep.grow {w w' : World} {A : Nat → Prop} {g : Bool} {cs : List Cell} {v : Value} (h : VRep w A g cs v []) (hB : Below w.heap.size w w') : VRep w' (After A w.heap.size ([] ++ [])) g cs v [] := by
  obtain ⟨vs, hr, hm⟩ := h
  exact ⟨vs, RepL.frame _ _ _ hr (fun b hb _ => hB.block b hb) (fun b _ ha => ⟨.inl ha, by simp⟩), hm⟩
/-- Two values are read, a value without memory comes back. -/
theorem ACalls.dat2 {P : Program} {f : FuncId} {g1 g2 : Bool} {c1 c2 : List Cell} {u : Value} (en : Enters P f) (hu : flat u = true)
    (h : ∀ w A v1 v2, VRep w A g1 c1 v1 [] → VRep w A g2 c2 v2 [] → (∀ b, A b → b < w.heap.size) → Calls P f #[v1, v2] w fun e w' => e = .returned u ∧ Below w.heap.size w w') : ACalls P f [.dat g1 c1, .dat g2 c2] [(false, [.sc u])] [.dat g1 c1, .dat g2 c2] := by
  refine ⟨en, fun w A vs F ha hnd hF hA => ?_⟩
  obtain ⟨v1, us1, F1, F2, rfl, rfl, ⟨rfl, hc1, hv1⟩, v2, us2, F3, F4, rfl, rfl, ⟨rfl, hc2, hv2⟩, rfl, rfl⟩ := ha
  refine (h w A v1 v2 hv1 hv2 hA).mono ?_
  rintro e w' ⟨rfl, hB⟩
  exact ⟨u, rfl, [u], [], [], rfl, ⟨u, [], [], [], rfl, rfl, ⟨[u], ⟨u, [], [], [], rfl, rfl, ⟨rfl, hu, rfl⟩, rfl, rfl⟩, rfl⟩, rfl, rfl⟩, ⟨v1, [v2], [], [], rfl, rfl, ⟨rfl, hc1, hv1.grow hB⟩, v2, [], [], [], rfl, rfl, ⟨rfl, hc2, hv2.grow hB⟩, rfl, rfl⟩, List.nodup_nil, (fun b hb => nomatch hb), ⟨hB.os, hB.tape, hB.output, hB.size, fun b hb _ => hB.block b hb⟩⟩
theorem VRep.sc {w : World} {A : Nat → Prop} {u v : Value} (h : VRep w A false [.sc u] v []) : v = u := by
  obtain ⟨vs, ⟨v', us, F1, F2, rfl, _, ⟨rfl, _, _⟩, rfl, _⟩, hm⟩ := h
  exact ((List.cons.inj hm).1).symm
end Go.Proofs.Ytppfilhlblnmcaa.Abs
