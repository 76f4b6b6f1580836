/- Functions' walks: each computes what its plain form says. No condition. -/
import Derived.Test.YtmbkcbgbienjoaaLkFnExactProgramOkh
import Derived.Test.YtmbkcbgbienjoaaLkFnExactProgramOka
open Go Go.Proofs Go.Proofs.Ytmbkcbgbienjoaa.Abs
namespace Go.Proofs.Ytmbkcbgbienjoaa.PFnExactProgramOk
open Go.RowKit Go.Proofs.YtmbkcbgbienjoaaW.PrintWords Go.Proofs.YtmbkcbgbienjoaaW.PrintLast Go.Proofs.YtmbkcbgbienjoaaW.PrintMore
set_option linter.unusedVariables false
set_option linter.unusedSimpArgs false
set_option maxRecDepth 100000
attribute [local irreducible] evK evQ evM evF evW evH goE goK goKD goQ goQD goD Ok ACalls
set_option maxHeartbeats 8000000 in
theorem laws_eqNode.link (k : Nat) (a0_0 : Int) (a0_1 : Int) (a0_2 : ByteArray) (a0_3 : ByteArray) (a0_4 : ByteArray) (l0_5 : List Int) (a1_0 : Int) (a1_1 : Int) (a1_2 : ByteArray) (a1_3 : ByteArray) (a1_4 : ByteArray) (l1_5 : List Int) (r : Bool) (H : laws_eqNode.f k a0_0 a0_1 a0_2 a0_3 a0_4 l0_5 a1_0 a1_1 a1_2 a1_3 a1_4 l1_5 = some r) : ACalls Try.prog 115 [.dat true [.sc (.int .i64 a0_0), .sc (.int .i64 a0_1), .sc (.string a0_2), .sc (.string a0_3), .sc (.string a0_4), .sl none 1 (List.flatMap eI l0_5)], .dat true [.sc (.int .i64 a1_0), .sc (.int .i64 a1_1), .sc (.string a1_2), .sc (.string a1_3), .sc (.string a1_4), .sl none 1 (List.flatMap eI l1_5)]] [(false, [.sc (.bool r)])] [.dat true [.sc (.int .i64 a0_0), .sc (.int .i64 a0_1), .sc (.string a0_2), .sc (.string a0_3), .sc (.string a0_4), .sl none 1 (List.flatMap eI l0_5)], .dat true [.sc (.int .i64 a1_0), .sc (.int .i64 a1_1), .sc (.string a1_2), .sc (.string a1_3), .sc (.string a1_4), .sl none 1 (List.flatMap eI l1_5)]] := by
 refine ACalls.enter Try.func115 (by kernel_rfl) rfl (by rw [Try.ntmps115]; exact Nat.le_of_ble_eq_true rfl) (fun C F hC hP hf hn hx => ?_)
 rw [Try.ntmps115] at hn
 have hF : Try.prog.funcs[C.fid]? = some Try.f115 := hf ▸ Try.func115
 replace hC := Hold.mk hC
 replace hx : C.fx = [] := hx
 simp only [entry, entE, enumM, rwA, rwC, Nat.reduceAdd] at ⊢
 simp only [laws_eqNode.f, List.length_append, List.length_cons, List.length_nil, Nat.zero_add, beq_dec, bne_dec, Bool.or_eq_true, Bool.and_eq_true, Bool.not_eq_true', decide_eq_true_eq, decide_eq_false_iff_not, ite_or', ite_and', ite_not', ge_iff_le, gt_iff_lt] at H
 repeat' first
  | (with_reducible replace H := sBindA H (by assumption))
  | (with_reducible replace H := sBindS H)
  | (with_reducible replace H := sBind H); obtain ⟨t, hA, H⟩ := H
  | (with_reducible replace H := sBool H); obtain ⟨c, H⟩ | ⟨c, H⟩ := H
  | (with_reducible replace H := sEq H); obtain ⟨c, c', H⟩ | ⟨c, c', H⟩ := H
  | (with_reducible replace H := sEqL H); obtain ⟨c, H⟩ | ⟨c, H⟩ := H
  | (with_reducible replace H := sIte H); obtain ⟨c, H⟩ | ⟨c, H⟩ := H
  | (with_reducible replace H := sAnd H); obtain ⟨c, H⟩ | ⟨c, H⟩ := H
  | (with_reducible replace H := sOr H); obtain ⟨c, H⟩ | ⟨c, H⟩ := H
 all_goals first
  | cases H
  | replace H := Hold.mk H
 all_goals repeat (first
  | apply Ok.seq
  | apply Ok.skip
  | (apply Ok.rN [0, 1, 2, 3, 4, 9, 14, 19, 24, 29, 35] hP hn hx; exact BR.go; exact BV.go)
  | (apply Ok.gS)
  | (apply Ok.cn; exact BS.go)
  | apply Ok.block
  | apply Ok.inBlock
  | (apply Ok.ex; exact BR.go)
  | (apply goE.e [0, 1, 2, 3, 4, 9, 14, 19, 24, 29, 35] hP hn hx; exact BR.go; exact BV.go)
  | (apply goE.n hP hn hx; exact BR.go; exact BJ.go; exact BU.go)
  | (apply goE.q; exact BR.go; exact BG.go; exact BW.go)
  | (apply goQ.t hP; exact BR.go; exact BR.go; exact BS.go)
  | (apply goQ.f hn hx; exact BR.go; exact BR.go; exact BE.go)
  | (apply goK.k hP hn hx; exact laws_eqIntS.link _ _ _ _ (by assumption); exact BS.go)
  | (apply Ok.bk #[.tmp 4] hC.out hP hx hF; exact BR.go; exact BF.go; exact BF.go; exact BF.go; exact BM.go; exact BR.go; exact BR.go; exact BR.go; exact B1.go; exact BR.go))
set_option maxHeartbeats 8000000 in
theorem laws_eqNodeS.link (k : Nat) (l0 : List (S77)) (l1 : List (S77)) (r : Bool) (H : laws_eqNodeS.f k l0 l1 = some r) : ACalls Try.prog 62 [.dat false [.sl none 6 (List.flatMap e77 l0)], .dat false [.sl none 6 (List.flatMap e77 l1)]] [(false, [.sc (.bool r)])] [.dat false [.sl none 6 (List.flatMap e77 l0)], .dat false [.sl none 6 (List.flatMap e77 l1)]] := by
 refine ACalls.enter Try.func62 (by kernel_rfl) rfl (by rw [Try.ntmps62]; exact Nat.le_of_ble_eq_true rfl) (fun C F hC hP hf hn hx => ?_)
 rw [Try.ntmps62] at hn
 have hF : Try.prog.funcs[C.fid]? = some Try.f62 := hf ▸ Try.func62
 replace hC := Hold.mk hC
 replace hx : C.fx = [] := hx
 simp only [entry, entE, enumM, rwA, rwC, Nat.reduceAdd] at ⊢
 simp only [laws_eqNodeS.f, List.length_append, List.length_cons, List.length_nil, Nat.zero_add, beq_dec, bne_dec, Bool.or_eq_true, Bool.and_eq_true, Bool.not_eq_true', decide_eq_true_eq, decide_eq_false_iff_not, ite_or', ite_and', ite_not', ge_iff_le, gt_iff_lt] at H
 repeat' first
  | (with_reducible replace H := sBindA H (by assumption))
  | (with_reducible replace H := sBindS H)
  | (with_reducible replace H := sBind H); obtain ⟨t, hA, H⟩ := H
  | (with_reducible replace H := sBool H); obtain ⟨c, H⟩ | ⟨c, H⟩ := H
  | (with_reducible replace H := sEq H); obtain ⟨c, c', H⟩ | ⟨c, c', H⟩ := H
  | (with_reducible replace H := sEqL H); obtain ⟨c, H⟩ | ⟨c, H⟩ := H
  | (with_reducible replace H := sIte H); obtain ⟨c, H⟩ | ⟨c, H⟩ := H
  | (with_reducible replace H := sAnd H); obtain ⟨c, H⟩ | ⟨c, H⟩ := H
  | (with_reducible replace H := sOr H); obtain ⟨c, H⟩ | ⟨c, H⟩ := H
 all_goals first
  | cases H
  | replace H := Hold.mk H
 all_goals repeat (first
  | apply Ok.seq
  | apply Ok.skip
  | (apply Ok.rN [0, 1, 4, 5, 10, 14, 26] hP hn hx; exact BR.go; exact BV.go)
  | (apply Ok.gS)
  | (apply Ok.cn; exact BS.go)
  | apply Ok.block
  | apply Ok.inBlock
  | (apply Ok.ex; exact BR.go)
  | (apply Ok.gD 6 (noneL [0, 1, 2, 3, 4, 5, 6, 7] ++ ((8, some []) :: (noneL [9] ++ []))) hP mo; exact BK.go)
  | (apply Ok.rD [0, 1, 4, 5, 10, 14, 26] hP hn hx mo; exact BK.go; exact BX.go)
  | (apply goE.e [0, 1, 4, 5, 10, 14, 26] hP hn hx; exact BR.go; exact BV.go)
  | (apply goE.n hP hn hx; exact BR.go; exact BJ.go; exact BU.go)
  | (apply goE.q; exact BR.go; exact BG.go; exact BW.go)
  | (apply goQ.t hP; exact BR.go; exact BR.go; exact BS.go)
  | (apply goQ.f hn hx; exact BR.go; exact BR.go; exact BE.go)
  | (apply goD.z [0, 1, 4, 5, 10, 14, 26]; exact BT.go)
  | (apply goD.n hP hn hx; exact BN.go)
  | (apply goD.q; exact BR.go; exact BG.go; exact BW.go)
  | (apply goQD.t hP; exact BR.go; exact BR.go; exact BS.go)
  | (apply goQD.f hP hn hx; exact BR.go; exact BR.go; exact BE.go; exact BQ.go)
  | (apply goD.x hP hn hx; exact BR.go; exact BG.go; exact BR.go; exact BW.go; exact BS.go; exact BQ.go)
  | (apply goK.k hP hn hx; exact laws_eqNode.link _ _ _ _ _ _ _ _ _ _ _ _ _ _ (by assumption); exact BS.go)
  | (apply goKD.k hP hn hx; exact laws_eqNode.link _ _ _ _ _ _ _ _ _ _ _ _ _ _ (by assumption); exact BS.go; exact BQ.go)
  | (apply Ok.bk #[.tmp 4] hC.out hP hx hF; exact BR.go; exact BF.go; exact BF.go; exact BF.go; exact BM.go; exact BR.go; exact BR.go; exact BR.go; exact B1.go; exact BR.go)
  | (apply Ok.lq [0, 1, 5] (fun q X => ∃ x0, ∃ x1, ∃ x5, X = ⟨[(0, .dat false [.sl none 6 (List.flatMap e77 x0)]), (1, .dat false [.sl none 6 (List.flatMap e77 x1)]), (5, .dat false [.sc (.int .i64 x5)])], []⟩ ∧ q ≤ k ∧ laws_eqNodeS.l0 q x0 x1 x5 = some r); exact BT.go; exact ⟨_, _, _, _, by first | rfl | (simp (disch := omega) only [go_sem, ↓reduceIte, eq_self, and_self]; done), by omega, H.out⟩))
 all_goals intro q0_1 X hJ ih0
 all_goals clear H
 all_goals obtain ⟨x0, x1, x5, rfl, hq, H⟩ := hJ
 all_goals (cases q0_1 with
  | zero => (simp only [laws_eqNodeS.l0] at H; cases H)
  | succ kq0_1 =>
   simp only [laws_eqNodeS.l0, List.length_append, List.length_cons, List.length_nil, Nat.zero_add, beq_dec, bne_dec, Bool.or_eq_true, Bool.and_eq_true, Bool.not_eq_true', decide_eq_true_eq, decide_eq_false_iff_not, ite_or', ite_and', ite_not', ge_iff_le, gt_iff_lt] at H
   repeat' first
    | (with_reducible replace H := sBindA H (by assumption))
    | (with_reducible replace H := sBindS H)
    | (with_reducible replace H := sBind H); obtain ⟨t, hA, H⟩ := H
    | (with_reducible replace H := sBool H); obtain ⟨c, H⟩ | ⟨c, H⟩ := H
    | (with_reducible replace H := sEq H); obtain ⟨c, c', H⟩ | ⟨c, c', H⟩ := H
    | (with_reducible replace H := sEqL H); obtain ⟨c, H⟩ | ⟨c, H⟩ := H
    | (with_reducible replace H := sIte H); obtain ⟨c, H⟩ | ⟨c, H⟩ := H
    | (with_reducible replace H := sAnd H); obtain ⟨c, H⟩ | ⟨c, H⟩ := H
    | (with_reducible replace H := sOr H); obtain ⟨c, H⟩ | ⟨c, H⟩ := H
   all_goals first
    | cases H
    | (exfalso; clear H; omega)
    | replace H := Hold.mk H
   all_goals repeat (first
    | apply Ok.seq
    | apply Ok.skip
    | (apply Ok.rN [0, 1, 4, 5, 10, 14, 26] hP hn hx; exact BR.go; exact BV.go)
    | (apply Ok.gS)
    | (apply Ok.cn; exact BS.go)
    | apply Ok.block
    | apply Ok.inBlock
    | (apply Ok.ex; exact BR.go)
    | (apply Ok.gD 6 (noneL [0, 1, 2, 3, 4, 5, 6, 7] ++ ((8, some []) :: (noneL [9] ++ []))) hP mo; exact BK.go)
    | (apply Ok.rD [0, 1, 4, 5, 10, 14, 26] hP hn hx mo; exact BK.go; exact BX.go)
    | (apply goE.e [0, 1, 4, 5, 10, 14, 26] hP hn hx; exact BR.go; exact BV.go)
    | (apply goE.n hP hn hx; exact BR.go; exact BJ.go; exact BU.go)
    | (apply goE.q; exact BR.go; exact BG.go; exact BW.go)
    | (apply goQ.t hP; exact BR.go; exact BR.go; exact BS.go)
    | (apply goQ.f hn hx; exact BR.go; exact BR.go; exact BE.go)
    | (apply goD.z [0, 1, 4, 5, 10, 14, 26]; exact BT.go)
    | (apply goD.n hP hn hx; exact BN.go)
    | (apply goD.q; exact BR.go; exact BG.go; exact BW.go)
    | (apply goQD.t hP; exact BR.go; exact BR.go; exact BS.go)
    | (apply goQD.f hP hn hx; exact BR.go; exact BR.go; exact BE.go; exact BQ.go)
    | (apply goD.x hP hn hx; exact BR.go; exact BG.go; exact BR.go; exact BW.go; exact BS.go; exact BQ.go)
    | (apply goK.k hP hn hx; exact laws_eqNode.link _ _ _ _ _ _ _ _ _ _ _ _ _ _ (by assumption); exact BS.go)
    | (apply goKD.k hP hn hx; exact laws_eqNode.link _ _ _ _ _ _ _ _ _ _ _ _ _ _ (by assumption); exact BS.go; exact BQ.go)
    | (apply Ok.bk #[.tmp 4] hC.out hP hx hF; exact BR.go; exact BF.go; exact BF.go; exact BF.go; exact BM.go; exact BR.go; exact BR.go; exact BR.go; exact B1.go; exact BR.go)
    | (apply Ok.ag [0, 1, 5] ih0; exact BT.go; exact ⟨_, by omega, _, _, _, by first | rfl | (simp (disch := omega) only [go_sem, ↓reduceIte, eq_self, and_self]; done), by omega, H.out⟩; done)))
set_option maxHeartbeats 8000000 in
theorem laws_eqStringS.link (k : Nat) (l0 : List ByteArray) (l1 : List ByteArray) (r : Bool) (H : laws_eqStringS.f k l0 l1 = some r) : ACalls Try.prog 31 [.dat false [.sl none 1 (List.flatMap eS l0)], .dat false [.sl none 1 (List.flatMap eS l1)]] [(false, [.sc (.bool r)])] [.dat false [.sl none 1 (List.flatMap eS l0)], .dat false [.sl none 1 (List.flatMap eS l1)]] := by
 refine ACalls.enter Try.func31 (by kernel_rfl) rfl (by rw [Try.ntmps31]; exact Nat.le_of_ble_eq_true rfl) (fun C F hC hP hf hn hx => ?_)
 rw [Try.ntmps31] at hn
 have hF : Try.prog.funcs[C.fid]? = some Try.f31 := hf ▸ Try.func31
 replace hC := Hold.mk hC
 replace hx : C.fx = [] := hx
 simp only [entry, entE, enumM, rwA, rwC, Nat.reduceAdd] at ⊢
 simp only [laws_eqStringS.f, List.length_append, List.length_cons, List.length_nil, Nat.zero_add, beq_dec, bne_dec, Bool.or_eq_true, Bool.and_eq_true, Bool.not_eq_true', decide_eq_true_eq, decide_eq_false_iff_not, ite_or', ite_and', ite_not', ge_iff_le, gt_iff_lt] at H
 repeat' first
  | (with_reducible replace H := sBindA H (by assumption))
  | (with_reducible replace H := sBindS H)
  | (with_reducible replace H := sBind H); obtain ⟨t, hA, H⟩ := H
  | (with_reducible replace H := sBool H); obtain ⟨c, H⟩ | ⟨c, H⟩ := H
  | (with_reducible replace H := sEq H); obtain ⟨c, c', H⟩ | ⟨c, c', H⟩ := H
  | (with_reducible replace H := sEqL H); obtain ⟨c, H⟩ | ⟨c, H⟩ := H
  | (with_reducible replace H := sIte H); obtain ⟨c, H⟩ | ⟨c, H⟩ := H
  | (with_reducible replace H := sAnd H); obtain ⟨c, H⟩ | ⟨c, H⟩ := H
  | (with_reducible replace H := sOr H); obtain ⟨c, H⟩ | ⟨c, H⟩ := H
 all_goals first
  | cases H
  | replace H := Hold.mk H
 all_goals repeat (first
  | apply Ok.seq
  | apply Ok.skip
  | (apply Ok.rN [0, 1, 4, 5, 10, 14, 25] hP hn hx; exact BR.go; exact BV.go)
  | (apply Ok.cn; exact BS.go)
  | apply Ok.block
  | apply Ok.inBlock
  | (apply Ok.ex; exact BR.go)
  | (apply Ok.rD [0, 1, 4, 5, 10, 14, 25] hP hn hx mo; exact BK.go; exact BX.go)
  | (apply Ok.bk #[.tmp 4] hC.out hP hx hF; exact BR.go; exact BF.go; exact BF.go; exact BF.go; exact BM.go; exact BR.go; exact BR.go; exact BR.go; exact B1.go; exact BR.go)
  | (apply Ok.lq [0, 1, 5] (fun q X => ∃ x0, ∃ x1, ∃ x5, X = ⟨[(0, .dat false [.sl none 1 (List.flatMap eS x0)]), (1, .dat false [.sl none 1 (List.flatMap eS x1)]), (5, .dat false [.sc (.int .i64 x5)])], []⟩ ∧ q ≤ k ∧ laws_eqStringS.l0 q x0 x1 x5 = some r); exact BT.go; exact ⟨_, _, _, _, by first | rfl | (simp (disch := omega) only [go_sem, ↓reduceIte, eq_self, and_self]; done), by omega, H.out⟩))
 all_goals intro q0_1 X hJ ih0
 all_goals clear H
 all_goals obtain ⟨x0, x1, x5, rfl, hq, H⟩ := hJ
 all_goals (cases q0_1 with
  | zero => (simp only [laws_eqStringS.l0] at H; cases H)
  | succ kq0_1 =>
   simp only [laws_eqStringS.l0, List.length_append, List.length_cons, List.length_nil, Nat.zero_add, beq_dec, bne_dec, Bool.or_eq_true, Bool.and_eq_true, Bool.not_eq_true', decide_eq_true_eq, decide_eq_false_iff_not, ite_or', ite_and', ite_not', ge_iff_le, gt_iff_lt] at H
   repeat' first
    | (with_reducible replace H := sBindA H (by assumption))
    | (with_reducible replace H := sBindS H)
    | (with_reducible replace H := sBind H); obtain ⟨t, hA, H⟩ := H
    | (with_reducible replace H := sBool H); obtain ⟨c, H⟩ | ⟨c, H⟩ := H
    | (with_reducible replace H := sEq H); obtain ⟨c, c', H⟩ | ⟨c, c', H⟩ := H
    | (with_reducible replace H := sEqL H); obtain ⟨c, H⟩ | ⟨c, H⟩ := H
    | (with_reducible replace H := sIte H); obtain ⟨c, H⟩ | ⟨c, H⟩ := H
    | (with_reducible replace H := sAnd H); obtain ⟨c, H⟩ | ⟨c, H⟩ := H
    | (with_reducible replace H := sOr H); obtain ⟨c, H⟩ | ⟨c, H⟩ := H
   all_goals first
    | cases H
    | (exfalso; clear H; omega)
    | replace H := Hold.mk H
   all_goals repeat (first
    | apply Ok.seq
    | apply Ok.skip
    | (apply Ok.rN [0, 1, 4, 5, 10, 14, 25] hP hn hx; exact BR.go; exact BV.go)
    | (apply Ok.cn; exact BS.go)
    | apply Ok.block
    | apply Ok.inBlock
    | (apply Ok.ex; exact BR.go)
    | (apply Ok.rD [0, 1, 4, 5, 10, 14, 25] hP hn hx mo; exact BK.go; exact BX.go)
    | (apply Ok.bk #[.tmp 4] hC.out hP hx hF; exact BR.go; exact BF.go; exact BF.go; exact BF.go; exact BM.go; exact BR.go; exact BR.go; exact BR.go; exact B1.go; exact BR.go)
    | (apply Ok.ag [0, 1, 5] ih0; exact BT.go; exact ⟨_, by omega, _, _, _, by first | rfl | (simp (disch := omega) only [go_sem, ↓reduceIte, eq_self, and_self]; done), by omega, H.out⟩; done)))
set_option maxHeartbeats 8000000 in
theorem laws_eqEntry.link (a0_0 : ByteArray) (a0_1 : ByteArray) (a0_2 : Int) (a1_0 : ByteArray) (a1_1 : ByteArray) (a1_2 : Int) (r : Bool) (H : laws_eqEntry.f a0_0 a0_1 a0_2 a1_0 a1_1 a1_2 = some r) : ACalls Try.prog 150 [.dat true [.sc (.string a0_0), .sc (.string a0_1), .sc (.int .i64 a0_2)], .dat true [.sc (.string a1_0), .sc (.string a1_1), .sc (.int .i64 a1_2)]] [(false, [.sc (.bool r)])] [.dat true [.sc (.string a0_0), .sc (.string a0_1), .sc (.int .i64 a0_2)], .dat true [.sc (.string a1_0), .sc (.string a1_1), .sc (.int .i64 a1_2)]] := by
 refine ACalls.enter Try.func150 (by kernel_rfl) rfl (by rw [Try.ntmps150]; exact Nat.le_of_ble_eq_true rfl) (fun C F hC hP hf hn hx => ?_)
 rw [Try.ntmps150] at hn
 have hF : Try.prog.funcs[C.fid]? = some Try.f150 := hf ▸ Try.func150
 replace hC := Hold.mk hC
 replace hx : C.fx = [] := hx
 simp only [entry, entE, enumM, rwA, rwC, Nat.reduceAdd] at ⊢
 simp only [laws_eqEntry.f, List.length_append, List.length_cons, List.length_nil, Nat.zero_add, beq_dec, bne_dec, Bool.or_eq_true, Bool.and_eq_true, Bool.not_eq_true', decide_eq_true_eq, decide_eq_false_iff_not, ite_or', ite_and', ite_not', ge_iff_le, gt_iff_lt] at H
 repeat' first
  | (with_reducible replace H := sBindA H (by assumption))
  | (with_reducible replace H := sBindS H)
  | (with_reducible replace H := sBind H); obtain ⟨t, hA, H⟩ := H
  | (with_reducible replace H := sBool H); obtain ⟨c, H⟩ | ⟨c, H⟩ := H
  | (with_reducible replace H := sEq H); obtain ⟨c, c', H⟩ | ⟨c, c', H⟩ := H
  | (with_reducible replace H := sEqL H); obtain ⟨c, H⟩ | ⟨c, H⟩ := H
  | (with_reducible replace H := sIte H); obtain ⟨c, H⟩ | ⟨c, H⟩ := H
  | (with_reducible replace H := sAnd H); obtain ⟨c, H⟩ | ⟨c, H⟩ := H
  | (with_reducible replace H := sOr H); obtain ⟨c, H⟩ | ⟨c, H⟩ := H
 all_goals first
  | cases H
  | replace H := Hold.mk H
 all_goals repeat (first
  | apply Ok.seq
  | apply Ok.skip
  | (apply Ok.rN [0, 1, 2, 3, 4, 9, 14, 19] hP hn hx; exact BR.go; exact BV.go)
  | (apply Ok.cn; exact BS.go)
  | apply Ok.block
  | apply Ok.inBlock
  | (apply Ok.ex; exact BR.go)
  | (apply Ok.bk #[.tmp 4] hC.out hP hx hF; exact BR.go; exact BF.go; exact BF.go; exact BF.go; exact BM.go; exact BR.go; exact BR.go; exact BR.go; exact B1.go; exact BR.go))
set_option maxHeartbeats 8000000 in
theorem laws_eqEntryS.link (k : Nat) (l0 : List (S131)) (l1 : List (S131)) (r : Bool) (H : laws_eqEntryS.f k l0 l1 = some r) : ACalls Try.prog 143 [.dat false [.sl none 3 (List.flatMap e131 l0)], .dat false [.sl none 3 (List.flatMap e131 l1)]] [(false, [.sc (.bool r)])] [.dat false [.sl none 3 (List.flatMap e131 l0)], .dat false [.sl none 3 (List.flatMap e131 l1)]] := by
 refine ACalls.enter Try.func143 (by kernel_rfl) rfl (by rw [Try.ntmps143]; exact Nat.le_of_ble_eq_true rfl) (fun C F hC hP hf hn hx => ?_)
 rw [Try.ntmps143] at hn
 have hF : Try.prog.funcs[C.fid]? = some Try.f143 := hf ▸ Try.func143
 replace hC := Hold.mk hC
 replace hx : C.fx = [] := hx
 simp only [entry, entE, enumM, rwA, rwC, Nat.reduceAdd] at ⊢
 simp only [laws_eqEntryS.f, List.length_append, List.length_cons, List.length_nil, Nat.zero_add, beq_dec, bne_dec, Bool.or_eq_true, Bool.and_eq_true, Bool.not_eq_true', decide_eq_true_eq, decide_eq_false_iff_not, ite_or', ite_and', ite_not', ge_iff_le, gt_iff_lt] at H
 repeat' first
  | (with_reducible replace H := sBindA H (by assumption))
  | (with_reducible replace H := sBindS H)
  | (with_reducible replace H := sBind H); obtain ⟨t, hA, H⟩ := H
  | (with_reducible replace H := sBool H); obtain ⟨c, H⟩ | ⟨c, H⟩ := H
  | (with_reducible replace H := sEq H); obtain ⟨c, c', H⟩ | ⟨c, c', H⟩ := H
  | (with_reducible replace H := sEqL H); obtain ⟨c, H⟩ | ⟨c, H⟩ := H
  | (with_reducible replace H := sIte H); obtain ⟨c, H⟩ | ⟨c, H⟩ := H
  | (with_reducible replace H := sAnd H); obtain ⟨c, H⟩ | ⟨c, H⟩ := H
  | (with_reducible replace H := sOr H); obtain ⟨c, H⟩ | ⟨c, H⟩ := H
 all_goals first
  | cases H
  | replace H := Hold.mk H
 all_goals repeat (first
  | apply Ok.seq
  | apply Ok.skip
  | (apply Ok.rN [0, 1, 4, 5, 10, 14, 26] hP hn hx; exact BR.go; exact BV.go)
  | (apply Ok.gS)
  | (apply Ok.cn; exact BS.go)
  | apply Ok.block
  | apply Ok.inBlock
  | (apply Ok.ex; exact BR.go)
  | (apply Ok.gD 6 (noneL [0, 1, 2, 3, 4, 5, 6, 7] ++ ((8, some []) :: (noneL [9] ++ []))) hP mo; exact BK.go)
  | (apply Ok.rD [0, 1, 4, 5, 10, 14, 26] hP hn hx mo; exact BK.go; exact BX.go)
  | (apply goE.e [0, 1, 4, 5, 10, 14, 26] hP hn hx; exact BR.go; exact BV.go)
  | (apply goE.n hP hn hx; exact BR.go; exact BJ.go; exact BU.go)
  | (apply goE.q; exact BR.go; exact BG.go; exact BW.go)
  | (apply goQ.t hP; exact BR.go; exact BR.go; exact BS.go)
  | (apply goQ.f hn hx; exact BR.go; exact BR.go; exact BE.go)
  | (apply goD.z [0, 1, 4, 5, 10, 14, 26]; exact BT.go)
  | (apply goD.n hP hn hx; exact BN.go)
  | (apply goD.q; exact BR.go; exact BG.go; exact BW.go)
  | (apply goQD.t hP; exact BR.go; exact BR.go; exact BS.go)
  | (apply goQD.f hP hn hx; exact BR.go; exact BR.go; exact BE.go; exact BQ.go)
  | (apply goD.x hP hn hx; exact BR.go; exact BG.go; exact BR.go; exact BW.go; exact BS.go; exact BQ.go)
  | (apply goK.k hP hn hx; exact laws_eqEntry.link _ _ _ _ _ _ _ (by assumption); exact BS.go)
  | (apply goKD.k hP hn hx; exact laws_eqEntry.link _ _ _ _ _ _ _ (by assumption); exact BS.go; exact BQ.go)
  | (apply Ok.bk #[.tmp 4] hC.out hP hx hF; exact BR.go; exact BF.go; exact BF.go; exact BF.go; exact BM.go; exact BR.go; exact BR.go; exact BR.go; exact B1.go; exact BR.go)
  | (apply Ok.lq [0, 1, 5] (fun q X => ∃ x0, ∃ x1, ∃ x5, X = ⟨[(0, .dat false [.sl none 3 (List.flatMap e131 x0)]), (1, .dat false [.sl none 3 (List.flatMap e131 x1)]), (5, .dat false [.sc (.int .i64 x5)])], []⟩ ∧ q ≤ k ∧ laws_eqEntryS.l0 q x0 x1 x5 = some r); exact BT.go; exact ⟨_, _, _, _, by first | rfl | (simp (disch := omega) only [go_sem, ↓reduceIte, eq_self, and_self]; done), by omega, H.out⟩))
 all_goals intro q0_1 X hJ ih0
 all_goals clear H
 all_goals obtain ⟨x0, x1, x5, rfl, hq, H⟩ := hJ
 all_goals (cases q0_1 with
  | zero => (simp only [laws_eqEntryS.l0] at H; cases H)
  | succ kq0_1 =>
   simp only [laws_eqEntryS.l0, List.length_append, List.length_cons, List.length_nil, Nat.zero_add, beq_dec, bne_dec, Bool.or_eq_true, Bool.and_eq_true, Bool.not_eq_true', decide_eq_true_eq, decide_eq_false_iff_not, ite_or', ite_and', ite_not', ge_iff_le, gt_iff_lt] at H
   repeat' first
    | (with_reducible replace H := sBindA H (by assumption))
    | (with_reducible replace H := sBindS H)
    | (with_reducible replace H := sBind H); obtain ⟨t, hA, H⟩ := H
    | (with_reducible replace H := sBool H); obtain ⟨c, H⟩ | ⟨c, H⟩ := H
    | (with_reducible replace H := sEq H); obtain ⟨c, c', H⟩ | ⟨c, c', H⟩ := H
    | (with_reducible replace H := sEqL H); obtain ⟨c, H⟩ | ⟨c, H⟩ := H
    | (with_reducible replace H := sIte H); obtain ⟨c, H⟩ | ⟨c, H⟩ := H
    | (with_reducible replace H := sAnd H); obtain ⟨c, H⟩ | ⟨c, H⟩ := H
    | (with_reducible replace H := sOr H); obtain ⟨c, H⟩ | ⟨c, H⟩ := H
   all_goals first
    | cases H
    | (exfalso; clear H; omega)
    | replace H := Hold.mk H
   all_goals repeat (first
    | apply Ok.seq
    | apply Ok.skip
    | (apply Ok.rN [0, 1, 4, 5, 10, 14, 26] hP hn hx; exact BR.go; exact BV.go)
    | (apply Ok.gS)
    | (apply Ok.cn; exact BS.go)
    | apply Ok.block
    | apply Ok.inBlock
    | (apply Ok.ex; exact BR.go)
    | (apply Ok.gD 6 (noneL [0, 1, 2, 3, 4, 5, 6, 7] ++ ((8, some []) :: (noneL [9] ++ []))) hP mo; exact BK.go)
    | (apply Ok.rD [0, 1, 4, 5, 10, 14, 26] hP hn hx mo; exact BK.go; exact BX.go)
    | (apply goE.e [0, 1, 4, 5, 10, 14, 26] hP hn hx; exact BR.go; exact BV.go)
    | (apply goE.n hP hn hx; exact BR.go; exact BJ.go; exact BU.go)
    | (apply goE.q; exact BR.go; exact BG.go; exact BW.go)
    | (apply goQ.t hP; exact BR.go; exact BR.go; exact BS.go)
    | (apply goQ.f hn hx; exact BR.go; exact BR.go; exact BE.go)
    | (apply goD.z [0, 1, 4, 5, 10, 14, 26]; exact BT.go)
    | (apply goD.n hP hn hx; exact BN.go)
    | (apply goD.q; exact BR.go; exact BG.go; exact BW.go)
    | (apply goQD.t hP; exact BR.go; exact BR.go; exact BS.go)
    | (apply goQD.f hP hn hx; exact BR.go; exact BR.go; exact BE.go; exact BQ.go)
    | (apply goD.x hP hn hx; exact BR.go; exact BG.go; exact BR.go; exact BW.go; exact BS.go; exact BQ.go)
    | (apply goK.k hP hn hx; exact laws_eqEntry.link _ _ _ _ _ _ _ (by assumption); exact BS.go)
    | (apply goKD.k hP hn hx; exact laws_eqEntry.link _ _ _ _ _ _ _ (by assumption); exact BS.go; exact BQ.go)
    | (apply Ok.bk #[.tmp 4] hC.out hP hx hF; exact BR.go; exact BF.go; exact BF.go; exact BF.go; exact BM.go; exact BR.go; exact BR.go; exact BR.go; exact B1.go; exact BR.go)
    | (apply Ok.ag [0, 1, 5] ih0; exact BT.go; exact ⟨_, by omega, _, _, _, by first | rfl | (simp (disch := omega) only [go_sem, ↓reduceIte, eq_self, and_self]; done), by omega, H.out⟩; done)))
set_option maxHeartbeats 8000000 in
theorem laws_eqMonitor.link (k : Nat) (a0_0 : ByteArray) (l0_1 : List ByteArray) (l0_2 : List ByteArray) (l0_3 : List (S131)) (a1_0 : ByteArray) (l1_1 : List ByteArray) (l1_2 : List ByteArray) (l1_3 : List (S131)) (r : Bool) (H : laws_eqMonitor.f k a0_0 l0_1 l0_2 l0_3 a1_0 l1_1 l1_2 l1_3 = some r) : ACalls Try.prog 116 [.dat true [.sc (.string a0_0), .sl none 1 (List.flatMap eS l0_1), .sl none 1 (List.flatMap eS l0_2), .sl none 3 (List.flatMap e131 l0_3)], .dat true [.sc (.string a1_0), .sl none 1 (List.flatMap eS l1_1), .sl none 1 (List.flatMap eS l1_2), .sl none 3 (List.flatMap e131 l1_3)]] [(false, [.sc (.bool r)])] [.dat true [.sc (.string a0_0), .sl none 1 (List.flatMap eS l0_1), .sl none 1 (List.flatMap eS l0_2), .sl none 3 (List.flatMap e131 l0_3)], .dat true [.sc (.string a1_0), .sl none 1 (List.flatMap eS l1_1), .sl none 1 (List.flatMap eS l1_2), .sl none 3 (List.flatMap e131 l1_3)]] := by
 refine ACalls.enter Try.func116 (by kernel_rfl) rfl (by rw [Try.ntmps116]; exact Nat.le_of_ble_eq_true rfl) (fun C F hC hP hf hn hx => ?_)
 rw [Try.ntmps116] at hn
 have hF : Try.prog.funcs[C.fid]? = some Try.f116 := hf ▸ Try.func116
 replace hC := Hold.mk hC
 replace hx : C.fx = [] := hx
 simp only [entry, entE, enumM, rwA, rwC, Nat.reduceAdd] at ⊢
 simp only [laws_eqMonitor.f, List.length_append, List.length_cons, List.length_nil, Nat.zero_add, beq_dec, bne_dec, Bool.or_eq_true, Bool.and_eq_true, Bool.not_eq_true', decide_eq_true_eq, decide_eq_false_iff_not, ite_or', ite_and', ite_not', ge_iff_le, gt_iff_lt] at H
 repeat' first
  | (with_reducible replace H := sBindA H (by assumption))
  | (with_reducible replace H := sBindS H)
  | (with_reducible replace H := sBind H); obtain ⟨t, hA, H⟩ := H
  | (with_reducible replace H := sBool H); obtain ⟨c, H⟩ | ⟨c, H⟩ := H
  | (with_reducible replace H := sEq H); obtain ⟨c, c', H⟩ | ⟨c, c', H⟩ := H
  | (with_reducible replace H := sEqL H); obtain ⟨c, H⟩ | ⟨c, H⟩ := H
  | (with_reducible replace H := sIte H); obtain ⟨c, H⟩ | ⟨c, H⟩ := H
  | (with_reducible replace H := sAnd H); obtain ⟨c, H⟩ | ⟨c, H⟩ := H
  | (with_reducible replace H := sOr H); obtain ⟨c, H⟩ | ⟨c, H⟩ := H
 all_goals first
  | cases H
  | replace H := Hold.mk H
 all_goals repeat (first
  | apply Ok.seq
  | apply Ok.skip
  | (apply Ok.rN [0, 1, 2, 3, 4, 9, 15, 21, 27] hP hn hx; exact BR.go; exact BV.go)
  | (apply Ok.gS)
  | (apply Ok.cn; exact BS.go)
  | apply Ok.block
  | apply Ok.inBlock
  | (apply Ok.ex; exact BR.go)
  | (apply goE.e [0, 1, 2, 3, 4, 9, 15, 21, 27] hP hn hx; exact BR.go; exact BV.go)
  | (apply goE.n hP hn hx; exact BR.go; exact BJ.go; exact BU.go)
  | (apply goE.q; exact BR.go; exact BG.go; exact BW.go)
  | (apply goQ.t hP; exact BR.go; exact BR.go; exact BS.go)
  | (apply goQ.f hn hx; exact BR.go; exact BR.go; exact BE.go)
  | (apply goK.k hP hn hx; exact laws_eqStringS.link _ _ _ _ (by assumption); exact BS.go)
  | (apply goK.k hP hn hx; exact laws_eqEntryS.link _ _ _ _ (by assumption); exact BS.go)
  | (apply Ok.bk #[.tmp 4] hC.out hP hx hF; exact BR.go; exact BF.go; exact BF.go; exact BF.go; exact BM.go; exact BR.go; exact BR.go; exact BR.go; exact B1.go; exact BR.go))
set_option maxHeartbeats 8000000 in
theorem laws_eqMonitorS.link (k : Nat) (l0 : List (S106)) (l1 : List (S106)) (r : Bool) (H : laws_eqMonitorS.f k l0 l1 = some r) : ACalls Try.prog 63 [.dat false [.sl none 4 (List.flatMap e106 l0)], .dat false [.sl none 4 (List.flatMap e106 l1)]] [(false, [.sc (.bool r)])] [.dat false [.sl none 4 (List.flatMap e106 l0)], .dat false [.sl none 4 (List.flatMap e106 l1)]] := by
 refine ACalls.enter Try.func63 (by kernel_rfl) rfl (by rw [Try.ntmps63]; exact Nat.le_of_ble_eq_true rfl) (fun C F hC hP hf hn hx => ?_)
 rw [Try.ntmps63] at hn
 have hF : Try.prog.funcs[C.fid]? = some Try.f63 := hf ▸ Try.func63
 replace hC := Hold.mk hC
 replace hx : C.fx = [] := hx
 simp only [entry, entE, enumM, rwA, rwC, Nat.reduceAdd] at ⊢
 simp only [laws_eqMonitorS.f, List.length_append, List.length_cons, List.length_nil, Nat.zero_add, beq_dec, bne_dec, Bool.or_eq_true, Bool.and_eq_true, Bool.not_eq_true', decide_eq_true_eq, decide_eq_false_iff_not, ite_or', ite_and', ite_not', ge_iff_le, gt_iff_lt] at H
 repeat' first
  | (with_reducible replace H := sBindA H (by assumption))
  | (with_reducible replace H := sBindS H)
  | (with_reducible replace H := sBind H); obtain ⟨t, hA, H⟩ := H
  | (with_reducible replace H := sBool H); obtain ⟨c, H⟩ | ⟨c, H⟩ := H
  | (with_reducible replace H := sEq H); obtain ⟨c, c', H⟩ | ⟨c, c', H⟩ := H
  | (with_reducible replace H := sEqL H); obtain ⟨c, H⟩ | ⟨c, H⟩ := H
  | (with_reducible replace H := sIte H); obtain ⟨c, H⟩ | ⟨c, H⟩ := H
  | (with_reducible replace H := sAnd H); obtain ⟨c, H⟩ | ⟨c, H⟩ := H
  | (with_reducible replace H := sOr H); obtain ⟨c, H⟩ | ⟨c, H⟩ := H
 all_goals first
  | cases H
  | replace H := Hold.mk H
 all_goals repeat (first
  | apply Ok.seq
  | apply Ok.skip
  | (apply Ok.rN [0, 1, 4, 5, 10, 14, 26] hP hn hx; exact BR.go; exact BV.go)
  | (apply Ok.gS)
  | (apply Ok.cn; exact BS.go)
  | apply Ok.block
  | apply Ok.inBlock
  | (apply Ok.ex; exact BR.go)
  | (apply Ok.gD 6 (noneL [0, 1, 2, 3, 4, 5, 6, 7] ++ ((8, some []) :: (noneL [9] ++ []))) hP mo; exact BK.go)
  | (apply Ok.rD [0, 1, 4, 5, 10, 14, 26] hP hn hx mo; exact BK.go; exact BX.go)
  | (apply goE.e [0, 1, 4, 5, 10, 14, 26] hP hn hx; exact BR.go; exact BV.go)
  | (apply goE.n hP hn hx; exact BR.go; exact BJ.go; exact BU.go)
  | (apply goE.q; exact BR.go; exact BG.go; exact BW.go)
  | (apply goQ.t hP; exact BR.go; exact BR.go; exact BS.go)
  | (apply goQ.f hn hx; exact BR.go; exact BR.go; exact BE.go)
  | (apply goD.z [0, 1, 4, 5, 10, 14, 26]; exact BT.go)
  | (apply goD.n hP hn hx; exact BN.go)
  | (apply goD.q; exact BR.go; exact BG.go; exact BW.go)
  | (apply goQD.t hP; exact BR.go; exact BR.go; exact BS.go)
  | (apply goQD.f hP hn hx; exact BR.go; exact BR.go; exact BE.go; exact BQ.go)
  | (apply goD.x hP hn hx; exact BR.go; exact BG.go; exact BR.go; exact BW.go; exact BS.go; exact BQ.go)
  | (apply goK.k hP hn hx; exact laws_eqMonitor.link _ _ _ _ _ _ _ _ _ _ (by assumption); exact BS.go)
  | (apply goKD.k hP hn hx; exact laws_eqMonitor.link _ _ _ _ _ _ _ _ _ _ (by assumption); exact BS.go; exact BQ.go)
  | (apply Ok.bk #[.tmp 4] hC.out hP hx hF; exact BR.go; exact BF.go; exact BF.go; exact BF.go; exact BM.go; exact BR.go; exact BR.go; exact BR.go; exact B1.go; exact BR.go)
  | (apply Ok.lq [0, 1, 5] (fun q X => ∃ x0, ∃ x1, ∃ x5, X = ⟨[(0, .dat false [.sl none 4 (List.flatMap e106 x0)]), (1, .dat false [.sl none 4 (List.flatMap e106 x1)]), (5, .dat false [.sc (.int .i64 x5)])], []⟩ ∧ q ≤ k ∧ laws_eqMonitorS.l0 q x0 x1 x5 = some r); exact BT.go; exact ⟨_, _, _, _, by first | rfl | (simp (disch := omega) only [go_sem, ↓reduceIte, eq_self, and_self]; done), by omega, H.out⟩))
 all_goals intro q0_1 X hJ ih0
 all_goals clear H
 all_goals obtain ⟨x0, x1, x5, rfl, hq, H⟩ := hJ
 all_goals (cases q0_1 with
  | zero => (simp only [laws_eqMonitorS.l0] at H; cases H)
  | succ kq0_1 =>
   simp only [laws_eqMonitorS.l0, List.length_append, List.length_cons, List.length_nil, Nat.zero_add, beq_dec, bne_dec, Bool.or_eq_true, Bool.and_eq_true, Bool.not_eq_true', decide_eq_true_eq, decide_eq_false_iff_not, ite_or', ite_and', ite_not', ge_iff_le, gt_iff_lt] at H
   repeat' first
    | (with_reducible replace H := sBindA H (by assumption))
    | (with_reducible replace H := sBindS H)
    | (with_reducible replace H := sBind H); obtain ⟨t, hA, H⟩ := H
    | (with_reducible replace H := sBool H); obtain ⟨c, H⟩ | ⟨c, H⟩ := H
    | (with_reducible replace H := sEq H); obtain ⟨c, c', H⟩ | ⟨c, c', H⟩ := H
    | (with_reducible replace H := sEqL H); obtain ⟨c, H⟩ | ⟨c, H⟩ := H
    | (with_reducible replace H := sIte H); obtain ⟨c, H⟩ | ⟨c, H⟩ := H
    | (with_reducible replace H := sAnd H); obtain ⟨c, H⟩ | ⟨c, H⟩ := H
    | (with_reducible replace H := sOr H); obtain ⟨c, H⟩ | ⟨c, H⟩ := H
   all_goals first
    | cases H
    | (exfalso; clear H; omega)
    | replace H := Hold.mk H
   all_goals repeat (first
    | apply Ok.seq
    | apply Ok.skip
    | (apply Ok.rN [0, 1, 4, 5, 10, 14, 26] hP hn hx; exact BR.go; exact BV.go)
    | (apply Ok.gS)
    | (apply Ok.cn; exact BS.go)
    | apply Ok.block
    | apply Ok.inBlock
    | (apply Ok.ex; exact BR.go)
    | (apply Ok.gD 6 (noneL [0, 1, 2, 3, 4, 5, 6, 7] ++ ((8, some []) :: (noneL [9] ++ []))) hP mo; exact BK.go)
    | (apply Ok.rD [0, 1, 4, 5, 10, 14, 26] hP hn hx mo; exact BK.go; exact BX.go)
    | (apply goE.e [0, 1, 4, 5, 10, 14, 26] hP hn hx; exact BR.go; exact BV.go)
    | (apply goE.n hP hn hx; exact BR.go; exact BJ.go; exact BU.go)
    | (apply goE.q; exact BR.go; exact BG.go; exact BW.go)
    | (apply goQ.t hP; exact BR.go; exact BR.go; exact BS.go)
    | (apply goQ.f hn hx; exact BR.go; exact BR.go; exact BE.go)
    | (apply goD.z [0, 1, 4, 5, 10, 14, 26]; exact BT.go)
    | (apply goD.n hP hn hx; exact BN.go)
    | (apply goD.q; exact BR.go; exact BG.go; exact BW.go)
    | (apply goQD.t hP; exact BR.go; exact BR.go; exact BS.go)
    | (apply goQD.f hP hn hx; exact BR.go; exact BR.go; exact BE.go; exact BQ.go)
    | (apply goD.x hP hn hx; exact BR.go; exact BG.go; exact BR.go; exact BW.go; exact BS.go; exact BQ.go)
    | (apply goK.k hP hn hx; exact laws_eqMonitor.link _ _ _ _ _ _ _ _ _ _ (by assumption); exact BS.go)
    | (apply goKD.k hP hn hx; exact laws_eqMonitor.link _ _ _ _ _ _ _ _ _ _ (by assumption); exact BS.go; exact BQ.go)
    | (apply Ok.bk #[.tmp 4] hC.out hP hx hF; exact BR.go; exact BF.go; exact BF.go; exact BF.go; exact BM.go; exact BR.go; exact BR.go; exact BR.go; exact B1.go; exact BR.go)
    | (apply Ok.ag [0, 1, 5] ih0; exact BT.go; exact ⟨_, by omega, _, _, _, by first | rfl | (simp (disch := omega) only [go_sem, ↓reduceIte, eq_self, and_self]; done), by omega, H.out⟩; done)))
set_option maxHeartbeats 8000000 in
theorem laws_eqProcess.link (k : Nat) (a0_0 : ByteArray) (l0_1 : List ByteArray) (l0_2 : List ByteArray) (a0_3 : Int) (a1_0 : ByteArray) (l1_1 : List ByteArray) (l1_2 : List ByteArray) (a1_3 : Int) (r : Bool) (H : laws_eqProcess.f k a0_0 l0_1 l0_2 a0_3 a1_0 l1_1 l1_2 a1_3 = some r) : ACalls Try.prog 117 [.dat true [.sc (.string a0_0), .sl none 1 (List.flatMap eS l0_1), .sl none 1 (List.flatMap eS l0_2), .sc (.int .i64 a0_3)], .dat true [.sc (.string a1_0), .sl none 1 (List.flatMap eS l1_1), .sl none 1 (List.flatMap eS l1_2), .sc (.int .i64 a1_3)]] [(false, [.sc (.bool r)])] [.dat true [.sc (.string a0_0), .sl none 1 (List.flatMap eS l0_1), .sl none 1 (List.flatMap eS l0_2), .sc (.int .i64 a0_3)], .dat true [.sc (.string a1_0), .sl none 1 (List.flatMap eS l1_1), .sl none 1 (List.flatMap eS l1_2), .sc (.int .i64 a1_3)]] := by
 refine ACalls.enter Try.func117 (by kernel_rfl) rfl (by rw [Try.ntmps117]; exact Nat.le_of_ble_eq_true rfl) (fun C F hC hP hf hn hx => ?_)
 rw [Try.ntmps117] at hn
 have hF : Try.prog.funcs[C.fid]? = some Try.f117 := hf ▸ Try.func117
 replace hC := Hold.mk hC
 replace hx : C.fx = [] := hx
 simp only [entry, entE, enumM, rwA, rwC, Nat.reduceAdd] at ⊢
 simp only [laws_eqProcess.f, List.length_append, List.length_cons, List.length_nil, Nat.zero_add, beq_dec, bne_dec, Bool.or_eq_true, Bool.and_eq_true, Bool.not_eq_true', decide_eq_true_eq, decide_eq_false_iff_not, ite_or', ite_and', ite_not', ge_iff_le, gt_iff_lt] at H
 repeat' first
  | (with_reducible replace H := sBindA H (by assumption))
  | (with_reducible replace H := sBindS H)
  | (with_reducible replace H := sBind H); obtain ⟨t, hA, H⟩ := H
  | (with_reducible replace H := sBool H); obtain ⟨c, H⟩ | ⟨c, H⟩ := H
  | (with_reducible replace H := sEq H); obtain ⟨c, c', H⟩ | ⟨c, c', H⟩ := H
  | (with_reducible replace H := sEqL H); obtain ⟨c, H⟩ | ⟨c, H⟩ := H
  | (with_reducible replace H := sIte H); obtain ⟨c, H⟩ | ⟨c, H⟩ := H
  | (with_reducible replace H := sAnd H); obtain ⟨c, H⟩ | ⟨c, H⟩ := H
  | (with_reducible replace H := sOr H); obtain ⟨c, H⟩ | ⟨c, H⟩ := H
 all_goals first
  | cases H
  | replace H := Hold.mk H
 all_goals repeat (first
  | apply Ok.seq
  | apply Ok.skip
  | (apply Ok.rN [0, 1, 2, 3, 4, 9, 15, 21, 26] hP hn hx; exact BR.go; exact BV.go)
  | (apply Ok.gS)
  | (apply Ok.cn; exact BS.go)
  | apply Ok.block
  | apply Ok.inBlock
  | (apply Ok.ex; exact BR.go)
  | (apply goE.e [0, 1, 2, 3, 4, 9, 15, 21, 26] hP hn hx; exact BR.go; exact BV.go)
  | (apply goE.n hP hn hx; exact BR.go; exact BJ.go; exact BU.go)
  | (apply goE.q; exact BR.go; exact BG.go; exact BW.go)
  | (apply goQ.t hP; exact BR.go; exact BR.go; exact BS.go)
  | (apply goQ.f hn hx; exact BR.go; exact BR.go; exact BE.go)
  | (apply goK.k hP hn hx; exact laws_eqStringS.link _ _ _ _ (by assumption); exact BS.go)
  | (apply Ok.bk #[.tmp 4] hC.out hP hx hF; exact BR.go; exact BF.go; exact BF.go; exact BF.go; exact BM.go; exact BR.go; exact BR.go; exact BR.go; exact B1.go; exact BR.go))
set_option maxHeartbeats 8000000 in
theorem laws_eqProcessS.link (k : Nat) (l0 : List (S103)) (l1 : List (S103)) (r : Bool) (H : laws_eqProcessS.f k l0 l1 = some r) : ACalls Try.prog 64 [.dat false [.sl none 4 (List.flatMap e103 l0)], .dat false [.sl none 4 (List.flatMap e103 l1)]] [(false, [.sc (.bool r)])] [.dat false [.sl none 4 (List.flatMap e103 l0)], .dat false [.sl none 4 (List.flatMap e103 l1)]] := by
 refine ACalls.enter Try.func64 (by kernel_rfl) rfl (by rw [Try.ntmps64]; exact Nat.le_of_ble_eq_true rfl) (fun C F hC hP hf hn hx => ?_)
 rw [Try.ntmps64] at hn
 have hF : Try.prog.funcs[C.fid]? = some Try.f64 := hf ▸ Try.func64
 replace hC := Hold.mk hC
 replace hx : C.fx = [] := hx
 simp only [entry, entE, enumM, rwA, rwC, Nat.reduceAdd] at ⊢
 simp only [laws_eqProcessS.f, List.length_append, List.length_cons, List.length_nil, Nat.zero_add, beq_dec, bne_dec, Bool.or_eq_true, Bool.and_eq_true, Bool.not_eq_true', decide_eq_true_eq, decide_eq_false_iff_not, ite_or', ite_and', ite_not', ge_iff_le, gt_iff_lt] at H
 repeat' first
  | (with_reducible replace H := sBindA H (by assumption))
  | (with_reducible replace H := sBindS H)
  | (with_reducible replace H := sBind H); obtain ⟨t, hA, H⟩ := H
  | (with_reducible replace H := sBool H); obtain ⟨c, H⟩ | ⟨c, H⟩ := H
  | (with_reducible replace H := sEq H); obtain ⟨c, c', H⟩ | ⟨c, c', H⟩ := H
  | (with_reducible replace H := sEqL H); obtain ⟨c, H⟩ | ⟨c, H⟩ := H
  | (with_reducible replace H := sIte H); obtain ⟨c, H⟩ | ⟨c, H⟩ := H
  | (with_reducible replace H := sAnd H); obtain ⟨c, H⟩ | ⟨c, H⟩ := H
  | (with_reducible replace H := sOr H); obtain ⟨c, H⟩ | ⟨c, H⟩ := H
 all_goals first
  | cases H
  | replace H := Hold.mk H
 all_goals repeat (first
  | apply Ok.seq
  | apply Ok.skip
  | (apply Ok.rN [0, 1, 4, 5, 10, 14, 26] hP hn hx; exact BR.go; exact BV.go)
  | (apply Ok.gS)
  | (apply Ok.cn; exact BS.go)
  | apply Ok.block
  | apply Ok.inBlock
  | (apply Ok.ex; exact BR.go)
  | (apply Ok.gD 6 (noneL [0, 1, 2, 3, 4, 5, 6, 7] ++ ((8, some []) :: (noneL [9] ++ []))) hP mo; exact BK.go)
  | (apply Ok.rD [0, 1, 4, 5, 10, 14, 26] hP hn hx mo; exact BK.go; exact BX.go)
  | (apply goE.e [0, 1, 4, 5, 10, 14, 26] hP hn hx; exact BR.go; exact BV.go)
  | (apply goE.n hP hn hx; exact BR.go; exact BJ.go; exact BU.go)
  | (apply goE.q; exact BR.go; exact BG.go; exact BW.go)
  | (apply goQ.t hP; exact BR.go; exact BR.go; exact BS.go)
  | (apply goQ.f hn hx; exact BR.go; exact BR.go; exact BE.go)
  | (apply goD.z [0, 1, 4, 5, 10, 14, 26]; exact BT.go)
  | (apply goD.n hP hn hx; exact BN.go)
  | (apply goD.q; exact BR.go; exact BG.go; exact BW.go)
  | (apply goQD.t hP; exact BR.go; exact BR.go; exact BS.go)
  | (apply goQD.f hP hn hx; exact BR.go; exact BR.go; exact BE.go; exact BQ.go)
  | (apply goD.x hP hn hx; exact BR.go; exact BG.go; exact BR.go; exact BW.go; exact BS.go; exact BQ.go)
  | (apply goK.k hP hn hx; exact laws_eqProcess.link _ _ _ _ _ _ _ _ _ _ (by assumption); exact BS.go)
  | (apply goKD.k hP hn hx; exact laws_eqProcess.link _ _ _ _ _ _ _ _ _ _ (by assumption); exact BS.go; exact BQ.go)
  | (apply Ok.bk #[.tmp 4] hC.out hP hx hF; exact BR.go; exact BF.go; exact BF.go; exact BF.go; exact BM.go; exact BR.go; exact BR.go; exact BR.go; exact B1.go; exact BR.go)
  | (apply Ok.lq [0, 1, 5] (fun q X => ∃ x0, ∃ x1, ∃ x5, X = ⟨[(0, .dat false [.sl none 4 (List.flatMap e103 x0)]), (1, .dat false [.sl none 4 (List.flatMap e103 x1)]), (5, .dat false [.sc (.int .i64 x5)])], []⟩ ∧ q ≤ k ∧ laws_eqProcessS.l0 q x0 x1 x5 = some r); exact BT.go; exact ⟨_, _, _, _, by first | rfl | (simp (disch := omega) only [go_sem, ↓reduceIte, eq_self, and_self]; done), by omega, H.out⟩))
 all_goals intro q0_1 X hJ ih0
 all_goals clear H
 all_goals obtain ⟨x0, x1, x5, rfl, hq, H⟩ := hJ
 all_goals (cases q0_1 with
  | zero => (simp only [laws_eqProcessS.l0] at H; cases H)
  | succ kq0_1 =>
   simp only [laws_eqProcessS.l0, List.length_append, List.length_cons, List.length_nil, Nat.zero_add, beq_dec, bne_dec, Bool.or_eq_true, Bool.and_eq_true, Bool.not_eq_true', decide_eq_true_eq, decide_eq_false_iff_not, ite_or', ite_and', ite_not', ge_iff_le, gt_iff_lt] at H
   repeat' first
    | (with_reducible replace H := sBindA H (by assumption))
    | (with_reducible replace H := sBindS H)
    | (with_reducible replace H := sBind H); obtain ⟨t, hA, H⟩ := H
    | (with_reducible replace H := sBool H); obtain ⟨c, H⟩ | ⟨c, H⟩ := H
    | (with_reducible replace H := sEq H); obtain ⟨c, c', H⟩ | ⟨c, c', H⟩ := H
    | (with_reducible replace H := sEqL H); obtain ⟨c, H⟩ | ⟨c, H⟩ := H
    | (with_reducible replace H := sIte H); obtain ⟨c, H⟩ | ⟨c, H⟩ := H
    | (with_reducible replace H := sAnd H); obtain ⟨c, H⟩ | ⟨c, H⟩ := H
    | (with_reducible replace H := sOr H); obtain ⟨c, H⟩ | ⟨c, H⟩ := H
   all_goals first
    | cases H
    | (exfalso; clear H; omega)
    | replace H := Hold.mk H
   all_goals repeat (first
    | apply Ok.seq
    | apply Ok.skip
    | (apply Ok.rN [0, 1, 4, 5, 10, 14, 26] hP hn hx; exact BR.go; exact BV.go)
    | (apply Ok.gS)
    | (apply Ok.cn; exact BS.go)
    | apply Ok.block
    | apply Ok.inBlock
    | (apply Ok.ex; exact BR.go)
    | (apply Ok.gD 6 (noneL [0, 1, 2, 3, 4, 5, 6, 7] ++ ((8, some []) :: (noneL [9] ++ []))) hP mo; exact BK.go)
    | (apply Ok.rD [0, 1, 4, 5, 10, 14, 26] hP hn hx mo; exact BK.go; exact BX.go)
    | (apply goE.e [0, 1, 4, 5, 10, 14, 26] hP hn hx; exact BR.go; exact BV.go)
    | (apply goE.n hP hn hx; exact BR.go; exact BJ.go; exact BU.go)
    | (apply goE.q; exact BR.go; exact BG.go; exact BW.go)
    | (apply goQ.t hP; exact BR.go; exact BR.go; exact BS.go)
    | (apply goQ.f hn hx; exact BR.go; exact BR.go; exact BE.go)
    | (apply goD.z [0, 1, 4, 5, 10, 14, 26]; exact BT.go)
    | (apply goD.n hP hn hx; exact BN.go)
    | (apply goD.q; exact BR.go; exact BG.go; exact BW.go)
    | (apply goQD.t hP; exact BR.go; exact BR.go; exact BS.go)
    | (apply goQD.f hP hn hx; exact BR.go; exact BR.go; exact BE.go; exact BQ.go)
    | (apply goD.x hP hn hx; exact BR.go; exact BG.go; exact BR.go; exact BW.go; exact BS.go; exact BQ.go)
    | (apply goK.k hP hn hx; exact laws_eqProcess.link _ _ _ _ _ _ _ _ _ _ (by assumption); exact BS.go)
    | (apply goKD.k hP hn hx; exact laws_eqProcess.link _ _ _ _ _ _ _ _ _ _ (by assumption); exact BS.go; exact BQ.go)
    | (apply Ok.bk #[.tmp 4] hC.out hP hx hF; exact BR.go; exact BF.go; exact BF.go; exact BF.go; exact BM.go; exact BR.go; exact BR.go; exact BR.go; exact B1.go; exact BR.go)
    | (apply Ok.ag [0, 1, 5] ih0; exact BT.go; exact ⟨_, by omega, _, _, _, by first | rfl | (simp (disch := omega) only [go_sem, ↓reduceIte, eq_self, and_self]; done), by omega, H.out⟩; done)))
set_option maxHeartbeats 8000000 in
theorem laws_eqProgram.link (k : Nat) (l0_0 : List (S77)) (l0_1 : List (S106)) (l0_2 : List (S103)) (l1_0 : List (S77)) (l1_1 : List (S106)) (l1_2 : List (S103)) (r : Bool) (H : laws_eqProgram.f k l0_0 l0_1 l0_2 l1_0 l1_1 l1_2 = some r) : ACalls Try.prog 19 [.dat true [.sl none 6 (List.flatMap e77 l0_0), .sl none 4 (List.flatMap e106 l0_1), .sl none 4 (List.flatMap e103 l0_2)], .dat true [.sl none 6 (List.flatMap e77 l1_0), .sl none 4 (List.flatMap e106 l1_1), .sl none 4 (List.flatMap e103 l1_2)]] [(false, [.sc (.bool r)])] [.dat true [.sl none 6 (List.flatMap e77 l0_0), .sl none 4 (List.flatMap e106 l0_1), .sl none 4 (List.flatMap e103 l0_2)], .dat true [.sl none 6 (List.flatMap e77 l1_0), .sl none 4 (List.flatMap e106 l1_1), .sl none 4 (List.flatMap e103 l1_2)]] := by
 refine ACalls.enter Try.func19 (by kernel_rfl) rfl (by rw [Try.ntmps19]; exact Nat.le_of_ble_eq_true rfl) (fun C F hC hP hf hn hx => ?_)
 rw [Try.ntmps19] at hn
 have hF : Try.prog.funcs[C.fid]? = some Try.f19 := hf ▸ Try.func19
 replace hC := Hold.mk hC
 replace hx : C.fx = [] := hx
 simp only [entry, entE, enumM, rwA, rwC, Nat.reduceAdd] at ⊢
 simp only [laws_eqProgram.f, List.length_append, List.length_cons, List.length_nil, Nat.zero_add, beq_dec, bne_dec, Bool.or_eq_true, Bool.and_eq_true, Bool.not_eq_true', decide_eq_true_eq, decide_eq_false_iff_not, ite_or', ite_and', ite_not', ge_iff_le, gt_iff_lt] at H
 repeat' first
  | (with_reducible replace H := sBindA H (by assumption))
  | (with_reducible replace H := sBindS H)
  | (with_reducible replace H := sBind H); obtain ⟨t, hA, H⟩ := H
  | (with_reducible replace H := sBool H); obtain ⟨c, H⟩ | ⟨c, H⟩ := H
  | (with_reducible replace H := sEq H); obtain ⟨c, c', H⟩ | ⟨c, c', H⟩ := H
  | (with_reducible replace H := sEqL H); obtain ⟨c, H⟩ | ⟨c, H⟩ := H
  | (with_reducible replace H := sIte H); obtain ⟨c, H⟩ | ⟨c, H⟩ := H
  | (with_reducible replace H := sAnd H); obtain ⟨c, H⟩ | ⟨c, H⟩ := H
  | (with_reducible replace H := sOr H); obtain ⟨c, H⟩ | ⟨c, H⟩ := H
 all_goals first
  | cases H
  | replace H := Hold.mk H
 all_goals repeat (first
  | apply Ok.seq
  | apply Ok.skip
  | (apply Ok.rN [0, 1, 2, 3, 4, 10, 16, 22] hP hn hx; exact BR.go; exact BV.go)
  | (apply Ok.gS)
  | (apply Ok.cn; exact BS.go)
  | apply Ok.block
  | apply Ok.inBlock
  | (apply Ok.ex; exact BR.go)
  | (apply goE.e [0, 1, 2, 3, 4, 10, 16, 22] hP hn hx; exact BR.go; exact BV.go)
  | (apply goE.n hP hn hx; exact BR.go; exact BJ.go; exact BU.go)
  | (apply goE.q; exact BR.go; exact BG.go; exact BW.go)
  | (apply goQ.t hP; exact BR.go; exact BR.go; exact BS.go)
  | (apply goQ.f hn hx; exact BR.go; exact BR.go; exact BE.go)
  | (apply goK.k hP hn hx; exact laws_eqNodeS.link _ _ _ _ (by assumption); exact BS.go)
  | (apply goK.k hP hn hx; exact laws_eqMonitorS.link _ _ _ _ (by assumption); exact BS.go)
  | (apply goK.k hP hn hx; exact laws_eqProcessS.link _ _ _ _ (by assumption); exact BS.go)
  | (apply Ok.bk #[.tmp 4] hC.out hP hx hF; exact BR.go; exact BF.go; exact BF.go; exact BF.go; exact BM.go; exact BR.go; exact BR.go; exact BR.go; exact B1.go; exact BR.go))
set_option maxHeartbeats 8000000 in
theorem spec_l01In.link (a0 : Int) (a1 : Int) (a2 : Int) (r : Bool) (H : spec_l01In.f a0 a1 a2 = some r) : ACalls Try.prog 73 [.dat false [.sc (.int .i64 a0)], .dat false [.sc (.int .i64 a1)], .dat false [.sc (.int .i64 a2)]] [(false, [.sc (.bool r)])] [.dat false [.sc (.int .i64 a0)], .dat false [.sc (.int .i64 a1)], .dat false [.sc (.int .i64 a2)]] := by
 refine ACalls.enter Try.func73 (by kernel_rfl) rfl (by rw [Try.ntmps73]; exact Nat.le_of_ble_eq_true rfl) (fun C F hC hP hf hn hx => ?_)
 rw [Try.ntmps73] at hn
 have hF : Try.prog.funcs[C.fid]? = some Try.f73 := hf ▸ Try.func73
 replace hC := Hold.mk hC
 replace hx : C.fx = [] := hx
 simp only [entry, entE, enumM, rwA, rwC, Nat.reduceAdd] at ⊢
 simp only [spec_l01In.f, List.length_append, List.length_cons, List.length_nil, Nat.zero_add, beq_dec, bne_dec, Bool.or_eq_true, Bool.and_eq_true, Bool.not_eq_true', decide_eq_true_eq, decide_eq_false_iff_not, ite_or', ite_and', ite_not', ge_iff_le, gt_iff_lt] at H
 repeat' first
  | (with_reducible replace H := sBindA H (by assumption))
  | (with_reducible replace H := sBindS H)
  | (with_reducible replace H := sBind H); obtain ⟨t, hA, H⟩ := H
  | (with_reducible replace H := sBool H); obtain ⟨c, H⟩ | ⟨c, H⟩ := H
  | (with_reducible replace H := sEq H); obtain ⟨c, c', H⟩ | ⟨c, c', H⟩ := H
  | (with_reducible replace H := sEqL H); obtain ⟨c, H⟩ | ⟨c, H⟩ := H
  | (with_reducible replace H := sIte H); obtain ⟨c, H⟩ | ⟨c, H⟩ := H
  | (with_reducible replace H := sAnd H); obtain ⟨c, H⟩ | ⟨c, H⟩ := H
  | (with_reducible replace H := sOr H); obtain ⟨c, H⟩ | ⟨c, H⟩ := H
 all_goals first
  | cases H
  | replace H := Hold.mk H
 all_goals repeat (first
  | apply Ok.seq
  | apply Ok.skip
  | (apply Ok.rN [0, 1, 2, 6] hP hn hx; exact BR.go; exact BV.go)
  | (apply Ok.cn; exact BS.go)
  | apply Ok.block
  | apply Ok.inBlock
  | (apply Ok.ex; exact BR.go)
  | (apply Ok.bk #[.tmp 6] hC.out hP hx hF; exact BR.go; exact BF.go; exact BF.go; exact BF.go; exact BM.go; exact BR.go; exact BR.go; exact BR.go; exact B1.go; exact BR.go))
set_option maxHeartbeats 8000000 in
theorem spec_l05Value.link (a0 : Int) (r : Bool) (H : spec_l05Value.f a0 = some r) : ACalls Try.prog 74 [.dat false [.sc (.int .i64 a0)]] [(false, [.sc (.bool r)])] [.dat false [.sc (.int .i64 a0)]] := by
 refine ACalls.enter Try.func74 (by kernel_rfl) rfl (by rw [Try.ntmps74]; exact Nat.le_of_ble_eq_true rfl) (fun C F hC hP hf hn hx => ?_)
 rw [Try.ntmps74] at hn
 have hF : Try.prog.funcs[C.fid]? = some Try.f74 := hf ▸ Try.func74
 replace hC := Hold.mk hC
 replace hx : C.fx = [] := hx
 simp only [entry, entE, enumM, rwA, rwC, Nat.reduceAdd] at ⊢
 simp only [spec_l05Value.f, List.length_append, List.length_cons, List.length_nil, Nat.zero_add, beq_dec, bne_dec, Bool.or_eq_true, Bool.and_eq_true, Bool.not_eq_true', decide_eq_true_eq, decide_eq_false_iff_not, ite_or', ite_and', ite_not', ge_iff_le, gt_iff_lt] at H
 repeat' first
  | (with_reducible replace H := sBindA H (by assumption))
  | (with_reducible replace H := sBindS H)
  | (with_reducible replace H := sBind H); obtain ⟨t, hA, H⟩ := H
  | (with_reducible replace H := sBool H); obtain ⟨c, H⟩ | ⟨c, H⟩ := H
  | (with_reducible replace H := sEq H); obtain ⟨c, c', H⟩ | ⟨c, c', H⟩ := H
  | (with_reducible replace H := sEqL H); obtain ⟨c, H⟩ | ⟨c, H⟩ := H
  | (with_reducible replace H := sIte H); obtain ⟨c, H⟩ | ⟨c, H⟩ := H
  | (with_reducible replace H := sAnd H); obtain ⟨c, H⟩ | ⟨c, H⟩ := H
  | (with_reducible replace H := sOr H); obtain ⟨c, H⟩ | ⟨c, H⟩ := H
 all_goals first
  | cases H
  | replace H := Hold.mk H
 all_goals repeat (first
  | apply Ok.seq
  | apply Ok.skip
  | (apply Ok.rN [0, 2] hP hn hx; exact BR.go; exact BV.go)
  | (apply Ok.gS)
  | (apply Ok.cn; exact BS.go)
  | apply Ok.block
  | apply Ok.inBlock
  | (apply Ok.ex; exact BR.go)
  | (apply goE.e [0, 2] hP hn hx; exact BR.go; exact BV.go)
  | (apply goE.n hP hn hx; exact BR.go; exact BJ.go; exact BU.go)
  | (apply goE.q; exact BR.go; exact BG.go; exact BW.go)
  | (apply goQ.t hP; exact BR.go; exact BR.go; exact BS.go)
  | (apply goQ.f hn hx; exact BR.go; exact BR.go; exact BE.go)
  | (apply goK.k hP hn hx; exact spec_l01In.link _ _ _ _ (by assumption); exact BS.go)
  | (apply Ok.bk #[.tmp 2] hC.out hP hx hF; exact BR.go; exact BF.go; exact BF.go; exact BF.go; exact BM.go; exact BR.go; exact BR.go; exact BR.go; exact B1.go; exact BR.go))
set_option maxHeartbeats 8000000 in
theorem spec_l05Statement.link (a0 : Int) (r : Bool) (H : spec_l05Statement.f a0 = some r) : ACalls Try.prog 75 [.dat false [.sc (.int .i64 a0)]] [(false, [.sc (.bool r)])] [.dat false [.sc (.int .i64 a0)]] := by
 refine ACalls.enter Try.func75 (by kernel_rfl) rfl (by rw [Try.ntmps75]; exact Nat.le_of_ble_eq_true rfl) (fun C F hC hP hf hn hx => ?_)
 rw [Try.ntmps75] at hn
 have hF : Try.prog.funcs[C.fid]? = some Try.f75 := hf ▸ Try.func75
 replace hC := Hold.mk hC
 replace hx : C.fx = [] := hx
 simp only [entry, entE, enumM, rwA, rwC, Nat.reduceAdd] at ⊢
 simp only [spec_l05Statement.f, List.length_append, List.length_cons, List.length_nil, Nat.zero_add, beq_dec, bne_dec, Bool.or_eq_true, Bool.and_eq_true, Bool.not_eq_true', decide_eq_true_eq, decide_eq_false_iff_not, ite_or', ite_and', ite_not', ge_iff_le, gt_iff_lt] at H
 repeat' first
  | (with_reducible replace H := sBindA H (by assumption))
  | (with_reducible replace H := sBindS H)
  | (with_reducible replace H := sBind H); obtain ⟨t, hA, H⟩ := H
  | (with_reducible replace H := sBool H); obtain ⟨c, H⟩ | ⟨c, H⟩ := H
  | (with_reducible replace H := sEq H); obtain ⟨c, c', H⟩ | ⟨c, c', H⟩ := H
  | (with_reducible replace H := sEqL H); obtain ⟨c, H⟩ | ⟨c, H⟩ := H
  | (with_reducible replace H := sIte H); obtain ⟨c, H⟩ | ⟨c, H⟩ := H
  | (with_reducible replace H := sAnd H); obtain ⟨c, H⟩ | ⟨c, H⟩ := H
  | (with_reducible replace H := sOr H); obtain ⟨c, H⟩ | ⟨c, H⟩ := H
 all_goals first
  | cases H
  | replace H := Hold.mk H
 all_goals repeat (first
  | apply Ok.seq
  | apply Ok.skip
  | (apply Ok.rN [0, 2] hP hn hx; exact BR.go; exact BV.go)
  | (apply Ok.gS)
  | (apply Ok.cn; exact BS.go)
  | apply Ok.block
  | apply Ok.inBlock
  | (apply Ok.ex; exact BR.go)
  | (apply goE.e [0, 2] hP hn hx; exact BR.go; exact BV.go)
  | (apply goE.n hP hn hx; exact BR.go; exact BJ.go; exact BU.go)
  | (apply goE.q; exact BR.go; exact BG.go; exact BW.go)
  | (apply goQ.t hP; exact BR.go; exact BR.go; exact BS.go)
  | (apply goQ.f hn hx; exact BR.go; exact BR.go; exact BE.go)
  | (apply goK.k hP hn hx; exact spec_l01In.link _ _ _ _ (by assumption); exact BS.go)
  | (apply Ok.bk #[.tmp 2] hC.out hP hx hF; exact BR.go; exact BF.go; exact BF.go; exact BF.go; exact BM.go; exact BR.go; exact BR.go; exact BR.go; exact B1.go; exact BR.go))
set_option maxHeartbeats 8000000 in
theorem spec_l05Kid.link (l0_0 : List (S77)) (l0_1 : List (S106)) (l0_2 : List (S103)) (a1 : Int) (a2 : Int) (r : Int) (H : spec_l05Kid.f l0_0 l0_1 l0_2 a1 a2 = some r) : ACalls Try.prog 125 [.dat true [.sl none 6 (List.flatMap e77 l0_0), .sl none 4 (List.flatMap e106 l0_1), .sl none 4 (List.flatMap e103 l0_2)], .dat false [.sc (.int .i64 a1)], .dat false [.sc (.int .i64 a2)]] [(false, [.sc (.int .i64 r)])] [.dat true [.sl none 6 (List.flatMap e77 l0_0), .sl none 4 (List.flatMap e106 l0_1), .sl none 4 (List.flatMap e103 l0_2)], .dat false [.sc (.int .i64 a1)], .dat false [.sc (.int .i64 a2)]] := by
 refine ACalls.enter Try.func125 (by kernel_rfl) rfl (by rw [Try.ntmps125]; exact Nat.le_of_ble_eq_true rfl) (fun C F hC hP hf hn hx => ?_)
 rw [Try.ntmps125] at hn
 have hF : Try.prog.funcs[C.fid]? = some Try.f125 := hf ▸ Try.func125
 replace hC := Hold.mk hC
 replace hx : C.fx = [] := hx
 simp only [entry, entE, enumM, rwA, rwC, Nat.reduceAdd] at ⊢
 simp only [spec_l05Kid.f, List.length_append, List.length_cons, List.length_nil, Nat.zero_add, beq_dec, bne_dec, Bool.or_eq_true, Bool.and_eq_true, Bool.not_eq_true', decide_eq_true_eq, decide_eq_false_iff_not, ite_or', ite_and', ite_not', ge_iff_le, gt_iff_lt] at H
 repeat' first
  | (with_reducible replace H := sBindA H (by assumption))
  | (with_reducible replace H := sBindS H)
  | (with_reducible replace H := sBind H); obtain ⟨t, hA, H⟩ := H
  | (with_reducible replace H := sBool H); obtain ⟨c, H⟩ | ⟨c, H⟩ := H
  | (with_reducible replace H := sEq H); obtain ⟨c, c', H⟩ | ⟨c, c', H⟩ := H
  | (with_reducible replace H := sEqL H); obtain ⟨c, H⟩ | ⟨c, H⟩ := H
  | (with_reducible replace H := sIte H); obtain ⟨c, H⟩ | ⟨c, H⟩ := H
  | (with_reducible replace H := sAnd H); obtain ⟨c, H⟩ | ⟨c, H⟩ := H
  | (with_reducible replace H := sOr H); obtain ⟨c, H⟩ | ⟨c, H⟩ := H
 all_goals first
  | cases H
  | (exfalso; clear H; omega)
  | replace H := Hold.mk H
 all_goals repeat (first
  | apply Ok.seq
  | apply Ok.skip
  | (apply Ok.rN [0, 1, 2, 3, 6, 7, 21] hP hn hx; exact BR.go; exact BV.go)
  | (apply Ok.gS)
  | (apply Ok.cn; exact BS.go)
  | apply Ok.block
  | apply Ok.inBlock
  | (apply Ok.ex; exact BR.go)
  | (apply goE.e [0, 1, 2, 3, 6, 7, 21] hP hn hx; exact BR.go; exact BV.go)
  | (apply goE.n hP hn hx; exact BR.go; exact BJ.go; exact BU.go)
  | (apply goE.q; exact BR.go; exact BG.go; exact BW.go)
  | (apply goQ.t hP; exact BR.go; exact BR.go; exact BS.go)
  | (apply goQ.f hn hx; exact BR.go; exact BR.go; exact BE.go)
  | (apply goK.k hP hn hx; exact spec_l01In.link _ _ _ _ (by assumption); exact BS.go)
  | (apply Ok.bk #[.tmp 6] hC.out hP hx hF; exact BR.go; exact BF.go; exact BF.go; exact BF.go; exact BM.go; exact BR.go; exact BR.go; exact BR.go; exact B1.go; exact BR.go))
set_option maxHeartbeats 8000000 in
theorem spec_l05Values.link (k : Nat) (l0_0 : List (S77)) (l0_1 : List (S106)) (l0_2 : List (S103)) (a1 : Int) (a2 : Int) (r : Bool) (H : spec_l05Values.f k l0_0 l0_1 l0_2 a1 a2 = some r) : ACalls Try.prog 123 [.dat true [.sl none 6 (List.flatMap e77 l0_0), .sl none 4 (List.flatMap e106 l0_1), .sl none 4 (List.flatMap e103 l0_2)], .dat false [.sc (.int .i64 a1)], .dat false [.sc (.int .i64 a2)]] [(false, [.sc (.bool r)])] [.dat true [.sl none 6 (List.flatMap e77 l0_0), .sl none 4 (List.flatMap e106 l0_1), .sl none 4 (List.flatMap e103 l0_2)], .dat false [.sc (.int .i64 a1)], .dat false [.sc (.int .i64 a2)]] := by
 refine ACalls.enter Try.func123 (by kernel_rfl) rfl (by rw [Try.ntmps123]; exact Nat.le_of_ble_eq_true rfl) (fun C F hC hP hf hn hx => ?_)
 rw [Try.ntmps123] at hn
 have hF : Try.prog.funcs[C.fid]? = some Try.f123 := hf ▸ Try.func123
 replace hC := Hold.mk hC
 replace hx : C.fx = [] := hx
 simp only [entry, entE, enumM, rwA, rwC, Nat.reduceAdd] at ⊢
 simp only [spec_l05Values.f, List.length_append, List.length_cons, List.length_nil, Nat.zero_add, beq_dec, bne_dec, Bool.or_eq_true, Bool.and_eq_true, Bool.not_eq_true', decide_eq_true_eq, decide_eq_false_iff_not, ite_or', ite_and', ite_not', ge_iff_le, gt_iff_lt] at H
 repeat' first
  | (with_reducible replace H := sBindA H (by assumption))
  | (with_reducible replace H := sBindS H)
  | (with_reducible replace H := sBind H); obtain ⟨t, hA, H⟩ := H
  | (with_reducible replace H := sBool H); obtain ⟨c, H⟩ | ⟨c, H⟩ := H
  | (with_reducible replace H := sEq H); obtain ⟨c, c', H⟩ | ⟨c, c', H⟩ := H
  | (with_reducible replace H := sEqL H); obtain ⟨c, H⟩ | ⟨c, H⟩ := H
  | (with_reducible replace H := sIte H); obtain ⟨c, H⟩ | ⟨c, H⟩ := H
  | (with_reducible replace H := sAnd H); obtain ⟨c, H⟩ | ⟨c, H⟩ := H
  | (with_reducible replace H := sOr H); obtain ⟨c, H⟩ | ⟨c, H⟩ := H
 all_goals first
  | cases H
  | replace H := Hold.mk H
 all_goals repeat (first
  | apply Ok.seq
  | apply Ok.skip
  | (apply Ok.rN [0, 1, 2, 3, 6, 7, 10, 18] hP hn hx; exact BR.go; exact BV.go)
  | (apply Ok.gS)
  | (apply Ok.cn; exact BS.go)
  | apply Ok.block
  | apply Ok.inBlock
  | (apply Ok.ex; exact BR.go)
  | (apply goE.e [0, 1, 2, 3, 6, 7, 10, 18] hP hn hx; exact BR.go; exact BV.go)
  | (apply goE.n hP hn hx; exact BR.go; exact BJ.go; exact BU.go)
  | (apply goE.q; exact BR.go; exact BG.go; exact BW.go)
  | (apply goQ.t hP; exact BR.go; exact BR.go; exact BS.go)
  | (apply goQ.f hn hx; exact BR.go; exact BR.go; exact BE.go)
  | (apply goK.k hP hn hx; exact spec_l05Value.link _ _ (by assumption); exact BS.go)
  | (apply goK.k hP hn hx; exact spec_l05Kid.link _ _ _ _ _ _ (by assumption); exact BS.go)
  | (apply Ok.bk #[.tmp 6] hC.out hP hx hF; exact BR.go; exact BF.go; exact BF.go; exact BF.go; exact BM.go; exact BR.go; exact BR.go; exact BR.go; exact B1.go; exact BR.go)
  | (apply Ok.lq [1, 2, 3, 7] (fun q X => ∃ x1, ∃ x2, ∃ x7, ∃ x268000, ∃ x268001, ∃ x268002, X = ⟨[(1, .dat false [.sc (.int .i64 x1)]), (2, .dat false [.sc (.int .i64 x2)]), (3, .pl 0 none 0), (7, .dat false [.sc (.int .i64 x7)])], [(0, .mem [.sl none 6 (List.flatMap e77 x268000), .sl none 4 (List.flatMap e106 x268001), .sl none 4 (List.flatMap e103 x268002)])]⟩ ∧ q ≤ k ∧ spec_l05Values.l0 q x1 x2 x7 x268000 x268001 x268002 = some r); exact BT.go; exact ⟨_, _, _, _, _, _, _, by first | rfl | (simp (disch := omega) only [go_sem, ↓reduceIte, eq_self, and_self]; done), by omega, H.out⟩))
 all_goals intro q0_1 X hJ ih0
 all_goals clear H
 all_goals obtain ⟨x1, x2, x7, x268000, x268001, x268002, rfl, hq, H⟩ := hJ
 all_goals (cases q0_1 with
  | zero => (simp only [spec_l05Values.l0] at H; cases H)
  | succ kq0_1 =>
   simp only [spec_l05Values.l0, List.length_append, List.length_cons, List.length_nil, Nat.zero_add, beq_dec, bne_dec, Bool.or_eq_true, Bool.and_eq_true, Bool.not_eq_true', decide_eq_true_eq, decide_eq_false_iff_not, ite_or', ite_and', ite_not', ge_iff_le, gt_iff_lt] at H
   repeat' first
    | (with_reducible replace H := sBindA H (by assumption))
    | (with_reducible replace H := sBindS H)
    | (with_reducible replace H := sBind H); obtain ⟨t, hA, H⟩ := H
    | (with_reducible replace H := sBool H); obtain ⟨c, H⟩ | ⟨c, H⟩ := H
    | (with_reducible replace H := sEq H); obtain ⟨c, c', H⟩ | ⟨c, c', H⟩ := H
    | (with_reducible replace H := sEqL H); obtain ⟨c, H⟩ | ⟨c, H⟩ := H
    | (with_reducible replace H := sIte H); obtain ⟨c, H⟩ | ⟨c, H⟩ := H
    | (with_reducible replace H := sAnd H); obtain ⟨c, H⟩ | ⟨c, H⟩ := H
    | (with_reducible replace H := sOr H); obtain ⟨c, H⟩ | ⟨c, H⟩ := H
   all_goals first
    | cases H
    | replace H := Hold.mk H
   all_goals repeat (first
    | apply Ok.seq
    | apply Ok.skip
    | (apply Ok.rN [0, 1, 2, 3, 6, 7, 10, 18] hP hn hx; exact BR.go; exact BV.go)
    | (apply Ok.gS)
    | (apply Ok.cn; exact BS.go)
    | apply Ok.block
    | apply Ok.inBlock
    | (apply Ok.ex; exact BR.go)
    | (apply goE.e [0, 1, 2, 3, 6, 7, 10, 18] hP hn hx; exact BR.go; exact BV.go)
    | (apply goE.n hP hn hx; exact BR.go; exact BJ.go; exact BU.go)
    | (apply goE.q; exact BR.go; exact BG.go; exact BW.go)
    | (apply goQ.t hP; exact BR.go; exact BR.go; exact BS.go)
    | (apply goQ.f hn hx; exact BR.go; exact BR.go; exact BE.go)
    | (apply goK.k hP hn hx; exact spec_l05Value.link _ _ (by assumption); exact BS.go)
    | (apply goK.k hP hn hx; exact spec_l05Kid.link _ _ _ _ _ _ (by assumption); exact BS.go)
    | (apply Ok.bk #[.tmp 6] hC.out hP hx hF; exact BR.go; exact BF.go; exact BF.go; exact BF.go; exact BM.go; exact BR.go; exact BR.go; exact BR.go; exact B1.go; exact BR.go)
    | (apply Ok.ag [1, 2, 3, 7] ih0; exact BT.go; exact ⟨_, by omega, _, _, _, _, _, _, by first | rfl | (simp (disch := omega) only [go_sem, ↓reduceIte, eq_self, and_self]; done), by omega, H.out⟩; done)))
set_option maxHeartbeats 8000000 in
theorem spec_l05Blocks.link (k : Nat) (l0_0 : List (S77)) (l0_1 : List (S106)) (l0_2 : List (S103)) (a1 : Int) (a2 : Int) (r : Bool) (H : spec_l05Blocks.f k l0_0 l0_1 l0_2 a1 a2 = some r) : ACalls Try.prog 124 [.dat true [.sl none 6 (List.flatMap e77 l0_0), .sl none 4 (List.flatMap e106 l0_1), .sl none 4 (List.flatMap e103 l0_2)], .dat false [.sc (.int .i64 a1)], .dat false [.sc (.int .i64 a2)]] [(false, [.sc (.bool r)])] [.dat true [.sl none 6 (List.flatMap e77 l0_0), .sl none 4 (List.flatMap e106 l0_1), .sl none 4 (List.flatMap e103 l0_2)], .dat false [.sc (.int .i64 a1)], .dat false [.sc (.int .i64 a2)]] := by
 refine ACalls.enter Try.func124 (by kernel_rfl) rfl (by rw [Try.ntmps124]; exact Nat.le_of_ble_eq_true rfl) (fun C F hC hP hf hn hx => ?_)
 rw [Try.ntmps124] at hn
 have hF : Try.prog.funcs[C.fid]? = some Try.f124 := hf ▸ Try.func124
 replace hC := Hold.mk hC
 replace hx : C.fx = [] := hx
 simp only [entry, entE, enumM, rwA, rwC, Nat.reduceAdd] at ⊢
 simp only [spec_l05Blocks.f, List.length_append, List.length_cons, List.length_nil, Nat.zero_add, beq_dec, bne_dec, Bool.or_eq_true, Bool.and_eq_true, Bool.not_eq_true', decide_eq_true_eq, decide_eq_false_iff_not, ite_or', ite_and', ite_not', ge_iff_le, gt_iff_lt] at H
 repeat' first
  | (with_reducible replace H := sBindA H (by assumption))
  | (with_reducible replace H := sBindS H)
  | (with_reducible replace H := sBind H); obtain ⟨t, hA, H⟩ := H
  | (with_reducible replace H := sBool H); obtain ⟨c, H⟩ | ⟨c, H⟩ := H
  | (with_reducible replace H := sEq H); obtain ⟨c, c', H⟩ | ⟨c, c', H⟩ := H
  | (with_reducible replace H := sEqL H); obtain ⟨c, H⟩ | ⟨c, H⟩ := H
  | (with_reducible replace H := sIte H); obtain ⟨c, H⟩ | ⟨c, H⟩ := H
  | (with_reducible replace H := sAnd H); obtain ⟨c, H⟩ | ⟨c, H⟩ := H
  | (with_reducible replace H := sOr H); obtain ⟨c, H⟩ | ⟨c, H⟩ := H
 all_goals first
  | cases H
  | replace H := Hold.mk H
 all_goals repeat (first
  | apply Ok.seq
  | apply Ok.skip
  | (apply Ok.rN [0, 1, 2, 3, 6, 7, 17, 24] hP hn hx; exact BR.go; exact BV.go)
  | (apply Ok.gS)
  | (apply Ok.cn; exact BS.go)
  | apply Ok.block
  | apply Ok.inBlock
  | (apply Ok.ex; exact BR.go)
  | (apply goE.e [0, 1, 2, 3, 6, 7, 17, 24] hP hn hx; exact BR.go; exact BV.go)
  | (apply goE.n hP hn hx; exact BR.go; exact BJ.go; exact BU.go)
  | (apply goE.q; exact BR.go; exact BG.go; exact BW.go)
  | (apply goQ.t hP; exact BR.go; exact BR.go; exact BS.go)
  | (apply goQ.f hn hx; exact BR.go; exact BR.go; exact BE.go)
  | (apply goK.k hP hn hx; exact spec_l05Kid.link _ _ _ _ _ _ (by assumption); exact BS.go)
  | (apply Ok.bk #[.tmp 6] hC.out hP hx hF; exact BR.go; exact BF.go; exact BF.go; exact BF.go; exact BM.go; exact BR.go; exact BR.go; exact BR.go; exact B1.go; exact BR.go)
  | (apply Ok.lq [1, 3, 7] (fun q X => ∃ x1, ∃ x7, ∃ x271000, ∃ x271001, ∃ x271002, X = ⟨[(1, .dat false [.sc (.int .i64 x1)]), (3, .pl 0 none 0), (7, .dat false [.sc (.int .i64 x7)])], [(0, .mem [.sl none 6 (List.flatMap e77 x271000), .sl none 4 (List.flatMap e106 x271001), .sl none 4 (List.flatMap e103 x271002)])]⟩ ∧ q ≤ k ∧ spec_l05Blocks.l0 q x1 x7 x271000 x271001 x271002 = some r); exact BT.go; exact ⟨_, _, _, _, _, _, by first | rfl | (simp (disch := omega) only [go_sem, ↓reduceIte, eq_self, and_self]; done), by omega, H.out⟩))
 all_goals intro q0_1 X hJ ih0
 all_goals clear H
 all_goals obtain ⟨x1, x7, x271000, x271001, x271002, rfl, hq, H⟩ := hJ
 all_goals (cases q0_1 with
  | zero => (simp only [spec_l05Blocks.l0] at H; cases H)
  | succ kq0_1 =>
   simp only [spec_l05Blocks.l0, List.length_append, List.length_cons, List.length_nil, Nat.zero_add, beq_dec, bne_dec, Bool.or_eq_true, Bool.and_eq_true, Bool.not_eq_true', decide_eq_true_eq, decide_eq_false_iff_not, ite_or', ite_and', ite_not', ge_iff_le, gt_iff_lt] at H
   repeat' first
    | (with_reducible replace H := sBindA H (by assumption))
    | (with_reducible replace H := sBindS H)
    | (with_reducible replace H := sBind H); obtain ⟨t, hA, H⟩ := H
    | (with_reducible replace H := sBool H); obtain ⟨c, H⟩ | ⟨c, H⟩ := H
    | (with_reducible replace H := sEq H); obtain ⟨c, c', H⟩ | ⟨c, c', H⟩ := H
    | (with_reducible replace H := sEqL H); obtain ⟨c, H⟩ | ⟨c, H⟩ := H
    | (with_reducible replace H := sIte H); obtain ⟨c, H⟩ | ⟨c, H⟩ := H
    | (with_reducible replace H := sAnd H); obtain ⟨c, H⟩ | ⟨c, H⟩ := H
    | (with_reducible replace H := sOr H); obtain ⟨c, H⟩ | ⟨c, H⟩ := H
   all_goals first
    | cases H
    | (exfalso; clear H; omega)
    | replace H := Hold.mk H
   all_goals repeat (first
    | apply Ok.seq
    | apply Ok.skip
    | (apply Ok.rN [0, 1, 2, 3, 6, 7, 17, 24] hP hn hx; exact BR.go; exact BV.go)
    | (apply Ok.gS)
    | (apply Ok.cn; exact BS.go)
    | apply Ok.block
    | apply Ok.inBlock
    | (apply Ok.ex; exact BR.go)
    | (apply goE.e [0, 1, 2, 3, 6, 7, 17, 24] hP hn hx; exact BR.go; exact BV.go)
    | (apply goE.n hP hn hx; exact BR.go; exact BJ.go; exact BU.go)
    | (apply goE.q; exact BR.go; exact BG.go; exact BW.go)
    | (apply goQ.t hP; exact BR.go; exact BR.go; exact BS.go)
    | (apply goQ.f hn hx; exact BR.go; exact BR.go; exact BE.go)
    | (apply goK.k hP hn hx; exact spec_l05Kid.link _ _ _ _ _ _ (by assumption); exact BS.go)
    | (apply Ok.bk #[.tmp 6] hC.out hP hx hF; exact BR.go; exact BF.go; exact BF.go; exact BF.go; exact BM.go; exact BR.go; exact BR.go; exact BR.go; exact B1.go; exact BR.go)
    | (apply Ok.ag [1, 3, 7] ih0; exact BT.go; exact ⟨_, by omega, _, _, _, _, _, by first | rfl | (simp (disch := omega) only [go_sem, ↓reduceIte, eq_self, and_self]; done), by omega, H.out⟩; done)))
end Go.Proofs.Ytmbkcbgbienjoaa.PFnExactProgramOk
