/- Functions' walks: each computes what its plain form says. No condition. -/
import Derived.Test.YtegeahiflkjhmaaLkFnExactSameProgramh
open Go Go.Proofs Go.Proofs.Ytegeahiflkjhmaa.Abs
namespace Go.Proofs.Ytegeahiflkjhmaa.PFnExactSameProgram
open Go.RowKit Go.Proofs.YtegeahiflkjhmaaW.PrintWords Go.Proofs.YtegeahiflkjhmaaW.PrintLast Go.Proofs.YtegeahiflkjhmaaW.PrintMore
set_option linter.unusedVariables false
set_option linter.unusedSimpArgs false
set_option maxRecDepth 100000
attribute [local irreducible] evK evQ evM evF evW evH goE goK goKD goQ goQD goD Ok ACalls
set_option maxHeartbeats 8000000 in
theorem laws_szIntS.link (l0 : List Int) (a1 : Int) (r : Int) (H : laws_szIntS.f l0 a1 = some r) : ACalls Try.prog 56 [.dat false [.sl none 1 (List.flatMap eI l0)], .dat false [.sc (.int .i64 a1)]] [(false, [.sc (.int .i64 r)])] [.dat false [.sl none 1 (List.flatMap eI l0)], .dat false [.sc (.int .i64 a1)]] := by
 refine ACalls.enter Try.func56 (by kernel_rfl) rfl (by rw [Try.ntmps56]; exact Nat.le_of_ble_eq_true rfl) (fun C F hC hP hf hn hx => ?_)
 rw [Try.ntmps56] at hn
 have hF : Try.prog.funcs[C.fid]? = some Try.f56 := hf ▸ Try.func56
 replace hx : C.fx = [] := hx
 simp only [entry, entE, enumM, rwA, rwC, Nat.reduceAdd] at ⊢
 simp only [laws_szIntS.f, beq_dec, bne_dec, Bool.or_eq_true, Bool.and_eq_true, Bool.not_eq_true', decide_eq_true_eq, decide_eq_false_iff_not, ite_or', ite_and', ite_not', ge_iff_le, gt_iff_lt] at H
 repeat' first
  | (with_reducible replace H := sBindA H (by assumption))
  | (with_reducible replace H := sBind H); obtain ⟨t, hA, H⟩ := H
  | (with_reducible replace H := sBool H); obtain ⟨c, H⟩ | ⟨c, H⟩ := H
  | (with_reducible replace H := sEq H); obtain ⟨c, c', H⟩ | ⟨c, c', H⟩ := H
  | (with_reducible replace H := sEqL H); obtain ⟨c, H⟩ | ⟨c, H⟩ := H
  | (with_reducible replace H := sIte H); obtain ⟨c, H⟩ | ⟨c, H⟩ := H
  | (with_reducible replace H := sAnd H); obtain ⟨c, H⟩ | ⟨c, H⟩ := H
  | (with_reducible replace H := sOr H); obtain ⟨c, H⟩ | ⟨c, H⟩ := H
 all_goals first
  | cases H
  | replace H := Hold.mk H
 all_goals repeat (first
  | apply Ok.seq
  | apply Ok.skip
  | (apply Ok.rN [0, 1, 4, 10] hP hn hx; exact BR.go; exact BV.go)
  | (apply Ok.cn; exact BS.go)
  | apply Ok.block
  | apply Ok.inBlock
  | refine Ok.exit ?_ rfl
  | (apply Ok.bk #[.tmp 4] hC hP hx hF; exact BR.go; exact BF.go; exact BF.go; exact BF.go; exact BM.go; exact BR.go; exact BR.go; exact BR.go; exact B1.go; exact BR.go))
set_option maxHeartbeats 8000000 in
theorem laws_szNode.link (a0_0 : Int) (a0_1 : Int) (a0_2 : ByteArray) (a0_3 : ByteArray) (a0_4 : ByteArray) (l0_5 : List Int) (a1 : Int) (r : Int) (H : laws_szNode.f a0_0 a0_1 a0_2 a0_3 a0_4 l0_5 a1 = some r) : ACalls Try.prog 126 [.dat true [.sc (.int .i64 a0_0), .sc (.int .i64 a0_1), .sc (.string a0_2), .sc (.string a0_3), .sc (.string a0_4), .sl none 1 (List.flatMap eI l0_5)], .dat false [.sc (.int .i64 a1)]] [(false, [.sc (.int .i64 r)])] [.dat true [.sc (.int .i64 a0_0), .sc (.int .i64 a0_1), .sc (.string a0_2), .sc (.string a0_3), .sc (.string a0_4), .sl none 1 (List.flatMap eI l0_5)], .dat false [.sc (.int .i64 a1)]] := by
 refine ACalls.enter Try.func126 (by kernel_rfl) rfl (by rw [Try.ntmps126]; exact Nat.le_of_ble_eq_true rfl) (fun C F hC hP hf hn hx => ?_)
 rw [Try.ntmps126] at hn
 have hF : Try.prog.funcs[C.fid]? = some Try.f126 := hf ▸ Try.func126
 replace hx : C.fx = [] := hx
 simp only [entry, entE, enumM, rwA, rwC, Nat.reduceAdd] at ⊢
 simp only [laws_szNode.f, beq_dec, bne_dec, Bool.or_eq_true, Bool.and_eq_true, Bool.not_eq_true', decide_eq_true_eq, decide_eq_false_iff_not, ite_or', ite_and', ite_not', ge_iff_le, gt_iff_lt] at H
 repeat' first
  | (with_reducible replace H := sBindA H (by assumption))
  | (with_reducible replace H := sBind H); obtain ⟨t, hA, H⟩ := H
  | (with_reducible replace H := sBool H); obtain ⟨c, H⟩ | ⟨c, H⟩ := H
  | (with_reducible replace H := sEq H); obtain ⟨c, c', H⟩ | ⟨c, c', H⟩ := H
  | (with_reducible replace H := sEqL H); obtain ⟨c, H⟩ | ⟨c, H⟩ := H
  | (with_reducible replace H := sIte H); obtain ⟨c, H⟩ | ⟨c, H⟩ := H
  | (with_reducible replace H := sAnd H); obtain ⟨c, H⟩ | ⟨c, H⟩ := H
  | (with_reducible replace H := sOr H); obtain ⟨c, H⟩ | ⟨c, H⟩ := H
 all_goals first
  | cases H
  | replace H := Hold.mk H
 all_goals repeat (first
  | apply Ok.seq
  | apply Ok.skip
  | (apply Ok.rN [0, 1, 2, 4, 11, 18, 25, 31] hP hn hx; exact BR.go; exact BV.go)
  | (apply Ok.gS)
  | (apply Ok.cn; exact BS.go)
  | apply Ok.block
  | apply Ok.inBlock
  | refine Ok.exit ?_ rfl
  | (apply goE.e [0, 1, 2, 4, 11, 18, 25, 31] hP hn hx; exact BR.go; exact BV.go)
  | (apply goE.n hP hn hx; exact BR.go; exact BJ.go; exact BU.go)
  | (apply goE.q; exact BR.go; exact BG.go; exact BW.go)
  | (apply goQ.t hP; exact BR.go; exact BR.go; exact BS.go)
  | (apply goQ.f hx; exact BR.go; exact BR.go; exact BE.go)
  | (apply goK.k hP hn hx; exact laws_szIntS.link _ _ _ (by assumption); exact BS.go)
  | (apply Ok.bk #[.tmp 4] hC hP hx hF; exact BR.go; exact BF.go; exact BF.go; exact BF.go; exact BM.go; exact BR.go; exact BR.go; exact BR.go; exact B1.go; exact BR.go))
set_option maxHeartbeats 8000000 in
theorem laws_szNodeS.link (k : Nat) (l0 : List (S148)) (a1 : Int) (r : Int) (H : laws_szNodeS.f k l0 a1 = some r) : ACalls Try.prog 91 [.dat false [.sl none 6 (List.flatMap e148 l0)], .dat false [.sc (.int .i64 a1)]] [(false, [.sc (.int .i64 r)])] [.dat false [.sl none 6 (List.flatMap e148 l0)], .dat false [.sc (.int .i64 a1)]] := by
 refine ACalls.enter Try.func91 (by kernel_rfl) rfl (by rw [Try.ntmps91]; exact Nat.le_of_ble_eq_true rfl) (fun C F hC hP hf hn hx => ?_)
 rw [Try.ntmps91] at hn
 have hF : Try.prog.funcs[C.fid]? = some Try.f91 := hf ▸ Try.func91
 replace hx : C.fx = [] := hx
 simp only [entry, entE, enumM, rwA, rwC, Nat.reduceAdd] at ⊢
 simp only [laws_szNodeS.f, beq_dec, bne_dec, Bool.or_eq_true, Bool.and_eq_true, Bool.not_eq_true', decide_eq_true_eq, decide_eq_false_iff_not, ite_or', ite_and', ite_not', ge_iff_le, gt_iff_lt] at H
 repeat' first
  | (with_reducible replace H := sBindA H (by assumption))
  | (with_reducible replace H := sBind H); obtain ⟨t, hA, H⟩ := H
  | (with_reducible replace H := sBool H); obtain ⟨c, H⟩ | ⟨c, H⟩ := H
  | (with_reducible replace H := sEq H); obtain ⟨c, c', H⟩ | ⟨c, c', H⟩ := H
  | (with_reducible replace H := sEqL H); obtain ⟨c, H⟩ | ⟨c, H⟩ := H
  | (with_reducible replace H := sIte H); obtain ⟨c, H⟩ | ⟨c, H⟩ := H
  | (with_reducible replace H := sAnd H); obtain ⟨c, H⟩ | ⟨c, H⟩ := H
  | (with_reducible replace H := sOr H); obtain ⟨c, H⟩ | ⟨c, H⟩ := H
 all_goals first
  | cases H
  | replace H := Hold.mk H
 all_goals repeat (first
  | apply Ok.seq
  | apply Ok.skip
  | (apply Ok.rN [0, 1, 4, 5, 11, 15, 25] hP hn hx; exact BR.go; exact BV.go)
  | (apply Ok.gS)
  | (apply Ok.cn; exact BS.go)
  | apply Ok.block
  | apply Ok.inBlock
  | refine Ok.exit ?_ rfl
  | (apply goE.e [0, 1, 4, 5, 11, 15, 25] hP hn hx; exact BR.go; exact BV.go)
  | (apply goE.n hP hn hx; exact BR.go; exact BJ.go; exact BU.go)
  | (apply goE.q; exact BR.go; exact BG.go; exact BW.go)
  | (apply goQ.t hP; exact BR.go; exact BR.go; exact BS.go)
  | (apply goQ.f hx; exact BR.go; exact BR.go; exact BE.go)
  | (apply goK.k hP hn hx; exact laws_szNode.link _ _ _ _ _ _ _ _ (by assumption); exact BS.go)
  | (apply Ok.bk #[.tmp 4] hC hP hx hF; exact BR.go; exact BF.go; exact BF.go; exact BF.go; exact BM.go; exact BR.go; exact BR.go; exact BR.go; exact B1.go; exact BR.go)
  | (apply Ok.lq [0, 1, 5] (fun q X => ∃ x0, ∃ x1, ∃ x5, X = ⟨[(0, .dat false [.sl none 6 (List.flatMap e148 x0)]), (1, .dat false [.sc (.int .i64 x1)]), (5, .dat false [.sc (.int .i64 x5)])], []⟩ ∧ q ≤ k ∧ laws_szNodeS.l0 q x0 x1 x5 = some r); exact BT.go; exact ⟨_, _, _, _, by first | rfl | (simp (disch := omega) only [go_sem, ↓reduceIte, eq_self, and_self]; done), by omega, H.out⟩))
 all_goals intro q0_1 X hJ ih0
 all_goals clear H
 all_goals obtain ⟨x0, x1, x5, rfl, hq, H⟩ := hJ
 all_goals (cases q0_1 with
  | zero => (simp only [laws_szNodeS.l0] at H; cases H)
  | succ kq0_1 =>
   simp only [laws_szNodeS.l0, beq_dec, bne_dec, Bool.or_eq_true, Bool.and_eq_true, Bool.not_eq_true', decide_eq_true_eq, decide_eq_false_iff_not, ite_or', ite_and', ite_not', ge_iff_le, gt_iff_lt] at H
   repeat' first
    | (with_reducible replace H := sBindA H (by assumption))
    | (with_reducible replace H := sBind H); obtain ⟨t, hA, H⟩ := H
    | (with_reducible replace H := sBool H); obtain ⟨c, H⟩ | ⟨c, H⟩ := H
    | (with_reducible replace H := sEq H); obtain ⟨c, c', H⟩ | ⟨c, c', H⟩ := H
    | (with_reducible replace H := sEqL H); obtain ⟨c, H⟩ | ⟨c, H⟩ := H
    | (with_reducible replace H := sIte H); obtain ⟨c, H⟩ | ⟨c, H⟩ := H
    | (with_reducible replace H := sAnd H); obtain ⟨c, H⟩ | ⟨c, H⟩ := H
    | (with_reducible replace H := sOr H); obtain ⟨c, H⟩ | ⟨c, H⟩ := H
   all_goals first
    | cases H
    | replace H := Hold.mk H
   all_goals repeat (first
    | apply Ok.seq
    | apply Ok.skip
    | (apply Ok.rN [0, 1, 4, 5, 11, 15, 25] hP hn hx; exact BR.go; exact BV.go)
    | (apply Ok.gS)
    | (apply Ok.cn; exact BS.go)
    | apply Ok.block
    | apply Ok.inBlock
    | refine Ok.exit ?_ rfl
    | (apply goE.e [0, 1, 4, 5, 11, 15, 25] hP hn hx; exact BR.go; exact BV.go)
    | (apply goE.n hP hn hx; exact BR.go; exact BJ.go; exact BU.go)
    | (apply goE.q; exact BR.go; exact BG.go; exact BW.go)
    | (apply goQ.t hP; exact BR.go; exact BR.go; exact BS.go)
    | (apply goQ.f hx; exact BR.go; exact BR.go; exact BE.go)
    | (apply goK.k hP hn hx; exact laws_szNode.link _ _ _ _ _ _ _ _ (by assumption); exact BS.go)
    | (apply Ok.bk #[.tmp 4] hC hP hx hF; exact BR.go; exact BF.go; exact BF.go; exact BF.go; exact BM.go; exact BR.go; exact BR.go; exact BR.go; exact B1.go; exact BR.go)
    | (apply Ok.ag [0, 1, 5] ih0; exact BT.go; exact ⟨_, by omega, _, _, _, by first | rfl | (simp (disch := omega) only [go_sem, ↓reduceIte, eq_self, and_self]; done), by omega, H.out⟩; done)))
set_option maxHeartbeats 8000000 in
theorem laws_szStringS.link (k : Nat) (l0 : List ByteArray) (a1 : Int) (r : Int) (H : laws_szStringS.f k l0 a1 = some r) : ACalls Try.prog 55 [.dat false [.sl none 1 (List.flatMap eS l0)], .dat false [.sc (.int .i64 a1)]] [(false, [.sc (.int .i64 r)])] [.dat false [.sl none 1 (List.flatMap eS l0)], .dat false [.sc (.int .i64 a1)]] := by
 refine ACalls.enter Try.func55 (by kernel_rfl) rfl (by rw [Try.ntmps55]; exact Nat.le_of_ble_eq_true rfl) (fun C F hC hP hf hn hx => ?_)
 rw [Try.ntmps55] at hn
 have hF : Try.prog.funcs[C.fid]? = some Try.f55 := hf ▸ Try.func55
 replace hx : C.fx = [] := hx
 simp only [entry, entE, enumM, rwA, rwC, Nat.reduceAdd] at ⊢
 simp only [laws_szStringS.f, beq_dec, bne_dec, Bool.or_eq_true, Bool.and_eq_true, Bool.not_eq_true', decide_eq_true_eq, decide_eq_false_iff_not, ite_or', ite_and', ite_not', ge_iff_le, gt_iff_lt] at H
 repeat' first
  | (with_reducible replace H := sBindA H (by assumption))
  | (with_reducible replace H := sBind H); obtain ⟨t, hA, H⟩ := H
  | (with_reducible replace H := sBool H); obtain ⟨c, H⟩ | ⟨c, H⟩ := H
  | (with_reducible replace H := sEq H); obtain ⟨c, c', H⟩ | ⟨c, c', H⟩ := H
  | (with_reducible replace H := sEqL H); obtain ⟨c, H⟩ | ⟨c, H⟩ := H
  | (with_reducible replace H := sIte H); obtain ⟨c, H⟩ | ⟨c, H⟩ := H
  | (with_reducible replace H := sAnd H); obtain ⟨c, H⟩ | ⟨c, H⟩ := H
  | (with_reducible replace H := sOr H); obtain ⟨c, H⟩ | ⟨c, H⟩ := H
 all_goals first
  | cases H
  | replace H := Hold.mk H
 all_goals repeat (first
  | apply Ok.seq
  | apply Ok.skip
  | (apply Ok.rN [0, 1, 4, 5, 11, 15, 26] hP hn hx; exact BR.go; exact BV.go)
  | (apply Ok.cn; exact BS.go)
  | apply Ok.block
  | apply Ok.inBlock
  | refine Ok.exit ?_ rfl
  | (apply Ok.bk #[.tmp 4] hC hP hx hF; exact BR.go; exact BF.go; exact BF.go; exact BF.go; exact BM.go; exact BR.go; exact BR.go; exact BR.go; exact B1.go; exact BR.go)
  | (apply Ok.lq [0, 1, 5] (fun q X => ∃ x0, ∃ x1, ∃ x5, X = ⟨[(0, .dat false [.sl none 1 (List.flatMap eS x0)]), (1, .dat false [.sc (.int .i64 x1)]), (5, .dat false [.sc (.int .i64 x5)])], []⟩ ∧ q ≤ k ∧ laws_szStringS.l0 q x0 x1 x5 = some r); exact BT.go; exact ⟨_, _, _, _, by first | rfl | (simp (disch := omega) only [go_sem, ↓reduceIte, eq_self, and_self]; done), by omega, H.out⟩))
 all_goals intro q0_1 X hJ ih0
 all_goals clear H
 all_goals obtain ⟨x0, x1, x5, rfl, hq, H⟩ := hJ
 all_goals (cases q0_1 with
  | zero => (simp only [laws_szStringS.l0] at H; cases H)
  | succ kq0_1 =>
   simp only [laws_szStringS.l0, beq_dec, bne_dec, Bool.or_eq_true, Bool.and_eq_true, Bool.not_eq_true', decide_eq_true_eq, decide_eq_false_iff_not, ite_or', ite_and', ite_not', ge_iff_le, gt_iff_lt] at H
   repeat' first
    | (with_reducible replace H := sBindA H (by assumption))
    | (with_reducible replace H := sBind H); obtain ⟨t, hA, H⟩ := H
    | (with_reducible replace H := sBool H); obtain ⟨c, H⟩ | ⟨c, H⟩ := H
    | (with_reducible replace H := sEq H); obtain ⟨c, c', H⟩ | ⟨c, c', H⟩ := H
    | (with_reducible replace H := sEqL H); obtain ⟨c, H⟩ | ⟨c, H⟩ := H
    | (with_reducible replace H := sIte H); obtain ⟨c, H⟩ | ⟨c, H⟩ := H
    | (with_reducible replace H := sAnd H); obtain ⟨c, H⟩ | ⟨c, H⟩ := H
    | (with_reducible replace H := sOr H); obtain ⟨c, H⟩ | ⟨c, H⟩ := H
   all_goals first
    | cases H
    | replace H := Hold.mk H
   all_goals repeat (first
    | apply Ok.seq
    | apply Ok.skip
    | (apply Ok.rN [0, 1, 4, 5, 11, 15, 26] hP hn hx; exact BR.go; exact BV.go)
    | (apply Ok.cn; exact BS.go)
    | apply Ok.block
    | apply Ok.inBlock
    | refine Ok.exit ?_ rfl
    | (apply Ok.bk #[.tmp 4] hC hP hx hF; exact BR.go; exact BF.go; exact BF.go; exact BF.go; exact BM.go; exact BR.go; exact BR.go; exact BR.go; exact B1.go; exact BR.go)
    | (apply Ok.ag [0, 1, 5] ih0; exact BT.go; exact ⟨_, by omega, _, _, _, by first | rfl | (simp (disch := omega) only [go_sem, ↓reduceIte, eq_self, and_self]; done), by omega, H.out⟩; done)))
set_option maxHeartbeats 8000000 in
theorem laws_szEntry.link (a0_0 : ByteArray) (a0_1 : ByteArray) (a0_2 : Int) (a1 : Int) (r : Int) (H : laws_szEntry.f a0_0 a0_1 a0_2 a1 = some r) : ACalls Try.prog 145 [.dat true [.sc (.string a0_0), .sc (.string a0_1), .sc (.int .i64 a0_2)], .dat false [.sc (.int .i64 a1)]] [(false, [.sc (.int .i64 r)])] [.dat true [.sc (.string a0_0), .sc (.string a0_1), .sc (.int .i64 a0_2)], .dat false [.sc (.int .i64 a1)]] := by
 refine ACalls.enter Try.func145 (by kernel_rfl) rfl (by rw [Try.ntmps145]; exact Nat.le_of_ble_eq_true rfl) (fun C F hC hP hf hn hx => ?_)
 rw [Try.ntmps145] at hn
 have hF : Try.prog.funcs[C.fid]? = some Try.f145 := hf ▸ Try.func145
 replace hx : C.fx = [] := hx
 simp only [entry, entE, enumM, rwA, rwC, Nat.reduceAdd] at ⊢
 simp only [laws_szEntry.f, beq_dec, bne_dec, Bool.or_eq_true, Bool.and_eq_true, Bool.not_eq_true', decide_eq_true_eq, decide_eq_false_iff_not, ite_or', ite_and', ite_not', ge_iff_le, gt_iff_lt] at H
 repeat' first
  | (with_reducible replace H := sBindA H (by assumption))
  | (with_reducible replace H := sBind H); obtain ⟨t, hA, H⟩ := H
  | (with_reducible replace H := sBool H); obtain ⟨c, H⟩ | ⟨c, H⟩ := H
  | (with_reducible replace H := sEq H); obtain ⟨c, c', H⟩ | ⟨c, c', H⟩ := H
  | (with_reducible replace H := sEqL H); obtain ⟨c, H⟩ | ⟨c, H⟩ := H
  | (with_reducible replace H := sIte H); obtain ⟨c, H⟩ | ⟨c, H⟩ := H
  | (with_reducible replace H := sAnd H); obtain ⟨c, H⟩ | ⟨c, H⟩ := H
  | (with_reducible replace H := sOr H); obtain ⟨c, H⟩ | ⟨c, H⟩ := H
 all_goals first
  | cases H
  | replace H := Hold.mk H
 all_goals repeat (first
  | apply Ok.seq
  | apply Ok.skip
  | (apply Ok.rN [0, 1, 2, 4, 11, 18] hP hn hx; exact BR.go; exact BV.go)
  | (apply Ok.cn; exact BS.go)
  | apply Ok.block
  | apply Ok.inBlock
  | refine Ok.exit ?_ rfl
  | (apply Ok.bk #[.tmp 4] hC hP hx hF; exact BR.go; exact BF.go; exact BF.go; exact BF.go; exact BM.go; exact BR.go; exact BR.go; exact BR.go; exact B1.go; exact BR.go))
set_option maxHeartbeats 8000000 in
theorem laws_szEntryS.link (k : Nat) (l0 : List (S163)) (a1 : Int) (r : Int) (H : laws_szEntryS.f k l0 a1 = some r) : ACalls Try.prog 141 [.dat false [.sl none 3 (List.flatMap e163 l0)], .dat false [.sc (.int .i64 a1)]] [(false, [.sc (.int .i64 r)])] [.dat false [.sl none 3 (List.flatMap e163 l0)], .dat false [.sc (.int .i64 a1)]] := by
 refine ACalls.enter Try.func141 (by kernel_rfl) rfl (by rw [Try.ntmps141]; exact Nat.le_of_ble_eq_true rfl) (fun C F hC hP hf hn hx => ?_)
 rw [Try.ntmps141] at hn
 have hF : Try.prog.funcs[C.fid]? = some Try.f141 := hf ▸ Try.func141
 replace hx : C.fx = [] := hx
 simp only [entry, entE, enumM, rwA, rwC, Nat.reduceAdd] at ⊢
 simp only [laws_szEntryS.f, beq_dec, bne_dec, Bool.or_eq_true, Bool.and_eq_true, Bool.not_eq_true', decide_eq_true_eq, decide_eq_false_iff_not, ite_or', ite_and', ite_not', ge_iff_le, gt_iff_lt] at H
 repeat' first
  | (with_reducible replace H := sBindA H (by assumption))
  | (with_reducible replace H := sBind H); obtain ⟨t, hA, H⟩ := H
  | (with_reducible replace H := sBool H); obtain ⟨c, H⟩ | ⟨c, H⟩ := H
  | (with_reducible replace H := sEq H); obtain ⟨c, c', H⟩ | ⟨c, c', H⟩ := H
  | (with_reducible replace H := sEqL H); obtain ⟨c, H⟩ | ⟨c, H⟩ := H
  | (with_reducible replace H := sIte H); obtain ⟨c, H⟩ | ⟨c, H⟩ := H
  | (with_reducible replace H := sAnd H); obtain ⟨c, H⟩ | ⟨c, H⟩ := H
  | (with_reducible replace H := sOr H); obtain ⟨c, H⟩ | ⟨c, H⟩ := H
 all_goals first
  | cases H
  | replace H := Hold.mk H
 all_goals repeat (first
  | apply Ok.seq
  | apply Ok.skip
  | (apply Ok.rN [0, 1, 4, 5, 11, 15, 25] hP hn hx; exact BR.go; exact BV.go)
  | (apply Ok.gS)
  | (apply Ok.cn; exact BS.go)
  | apply Ok.block
  | apply Ok.inBlock
  | refine Ok.exit ?_ rfl
  | (apply goE.e [0, 1, 4, 5, 11, 15, 25] hP hn hx; exact BR.go; exact BV.go)
  | (apply goE.n hP hn hx; exact BR.go; exact BJ.go; exact BU.go)
  | (apply goE.q; exact BR.go; exact BG.go; exact BW.go)
  | (apply goQ.t hP; exact BR.go; exact BR.go; exact BS.go)
  | (apply goQ.f hx; exact BR.go; exact BR.go; exact BE.go)
  | (apply goK.k hP hn hx; exact laws_szEntry.link _ _ _ _ _ (by assumption); exact BS.go)
  | (apply Ok.bk #[.tmp 4] hC hP hx hF; exact BR.go; exact BF.go; exact BF.go; exact BF.go; exact BM.go; exact BR.go; exact BR.go; exact BR.go; exact B1.go; exact BR.go)
  | (apply Ok.lq [0, 1, 5] (fun q X => ∃ x0, ∃ x1, ∃ x5, X = ⟨[(0, .dat false [.sl none 3 (List.flatMap e163 x0)]), (1, .dat false [.sc (.int .i64 x1)]), (5, .dat false [.sc (.int .i64 x5)])], []⟩ ∧ q ≤ k ∧ laws_szEntryS.l0 q x0 x1 x5 = some r); exact BT.go; exact ⟨_, _, _, _, by first | rfl | (simp (disch := omega) only [go_sem, ↓reduceIte, eq_self, and_self]; done), by omega, H.out⟩))
 all_goals intro q0_1 X hJ ih0
 all_goals clear H
 all_goals obtain ⟨x0, x1, x5, rfl, hq, H⟩ := hJ
 all_goals (cases q0_1 with
  | zero => (simp only [laws_szEntryS.l0] at H; cases H)
  | succ kq0_1 =>
   simp only [laws_szEntryS.l0, beq_dec, bne_dec, Bool.or_eq_true, Bool.and_eq_true, Bool.not_eq_true', decide_eq_true_eq, decide_eq_false_iff_not, ite_or', ite_and', ite_not', ge_iff_le, gt_iff_lt] at H
   repeat' first
    | (with_reducible replace H := sBindA H (by assumption))
    | (with_reducible replace H := sBind H); obtain ⟨t, hA, H⟩ := H
    | (with_reducible replace H := sBool H); obtain ⟨c, H⟩ | ⟨c, H⟩ := H
    | (with_reducible replace H := sEq H); obtain ⟨c, c', H⟩ | ⟨c, c', H⟩ := H
    | (with_reducible replace H := sEqL H); obtain ⟨c, H⟩ | ⟨c, H⟩ := H
    | (with_reducible replace H := sIte H); obtain ⟨c, H⟩ | ⟨c, H⟩ := H
    | (with_reducible replace H := sAnd H); obtain ⟨c, H⟩ | ⟨c, H⟩ := H
    | (with_reducible replace H := sOr H); obtain ⟨c, H⟩ | ⟨c, H⟩ := H
   all_goals first
    | cases H
    | replace H := Hold.mk H
   all_goals repeat (first
    | apply Ok.seq
    | apply Ok.skip
    | (apply Ok.rN [0, 1, 4, 5, 11, 15, 25] hP hn hx; exact BR.go; exact BV.go)
    | (apply Ok.gS)
    | (apply Ok.cn; exact BS.go)
    | apply Ok.block
    | apply Ok.inBlock
    | refine Ok.exit ?_ rfl
    | (apply goE.e [0, 1, 4, 5, 11, 15, 25] hP hn hx; exact BR.go; exact BV.go)
    | (apply goE.n hP hn hx; exact BR.go; exact BJ.go; exact BU.go)
    | (apply goE.q; exact BR.go; exact BG.go; exact BW.go)
    | (apply goQ.t hP; exact BR.go; exact BR.go; exact BS.go)
    | (apply goQ.f hx; exact BR.go; exact BR.go; exact BE.go)
    | (apply goK.k hP hn hx; exact laws_szEntry.link _ _ _ _ _ (by assumption); exact BS.go)
    | (apply Ok.bk #[.tmp 4] hC hP hx hF; exact BR.go; exact BF.go; exact BF.go; exact BF.go; exact BM.go; exact BR.go; exact BR.go; exact BR.go; exact B1.go; exact BR.go)
    | (apply Ok.ag [0, 1, 5] ih0; exact BT.go; exact ⟨_, by omega, _, _, _, by first | rfl | (simp (disch := omega) only [go_sem, ↓reduceIte, eq_self, and_self]; done), by omega, H.out⟩; done)))
set_option maxHeartbeats 8000000 in
theorem laws_szMonitor.link (k : Nat) (a0_0 : ByteArray) (l0_1 : List ByteArray) (l0_2 : List ByteArray) (l0_3 : List (S163)) (a1 : Int) (r : Int) (H : laws_szMonitor.f k a0_0 l0_1 l0_2 l0_3 a1 = some r) : ACalls Try.prog 127 [.dat true [.sc (.string a0_0), .sl none 1 (List.flatMap eS l0_1), .sl none 1 (List.flatMap eS l0_2), .sl none 3 (List.flatMap e163 l0_3)], .dat false [.sc (.int .i64 a1)]] [(false, [.sc (.int .i64 r)])] [.dat true [.sc (.string a0_0), .sl none 1 (List.flatMap eS l0_1), .sl none 1 (List.flatMap eS l0_2), .sl none 3 (List.flatMap e163 l0_3)], .dat false [.sc (.int .i64 a1)]] := by
 refine ACalls.enter Try.func127 (by kernel_rfl) rfl (by rw [Try.ntmps127]; exact Nat.le_of_ble_eq_true rfl) (fun C F hC hP hf hn hx => ?_)
 rw [Try.ntmps127] at hn
 have hF : Try.prog.funcs[C.fid]? = some Try.f127 := hf ▸ Try.func127
 replace hx : C.fx = [] := hx
 simp only [entry, entE, enumM, rwA, rwC, Nat.reduceAdd] at ⊢
 simp only [laws_szMonitor.f, beq_dec, bne_dec, Bool.or_eq_true, Bool.and_eq_true, Bool.not_eq_true', decide_eq_true_eq, decide_eq_false_iff_not, ite_or', ite_and', ite_not', ge_iff_le, gt_iff_lt] at H
 repeat' first
  | (with_reducible replace H := sBindA H (by assumption))
  | (with_reducible replace H := sBind H); obtain ⟨t, hA, H⟩ := H
  | (with_reducible replace H := sBool H); obtain ⟨c, H⟩ | ⟨c, H⟩ := H
  | (with_reducible replace H := sEq H); obtain ⟨c, c', H⟩ | ⟨c, c', H⟩ := H
  | (with_reducible replace H := sEqL H); obtain ⟨c, H⟩ | ⟨c, H⟩ := H
  | (with_reducible replace H := sIte H); obtain ⟨c, H⟩ | ⟨c, H⟩ := H
  | (with_reducible replace H := sAnd H); obtain ⟨c, H⟩ | ⟨c, H⟩ := H
  | (with_reducible replace H := sOr H); obtain ⟨c, H⟩ | ⟨c, H⟩ := H
 all_goals first
  | cases H
  | replace H := Hold.mk H
 all_goals repeat (first
  | apply Ok.seq
  | apply Ok.skip
  | (apply Ok.rN [0, 1, 2, 4, 11, 17, 23, 29] hP hn hx; exact BR.go; exact BV.go)
  | (apply Ok.gS)
  | (apply Ok.cn; exact BS.go)
  | apply Ok.block
  | apply Ok.inBlock
  | refine Ok.exit ?_ rfl
  | (apply goE.e [0, 1, 2, 4, 11, 17, 23, 29] hP hn hx; exact BR.go; exact BV.go)
  | (apply goE.n hP hn hx; exact BR.go; exact BJ.go; exact BU.go)
  | (apply goE.q; exact BR.go; exact BG.go; exact BW.go)
  | (apply goQ.t hP; exact BR.go; exact BR.go; exact BS.go)
  | (apply goQ.f hx; exact BR.go; exact BR.go; exact BE.go)
  | (apply goK.k hP hn hx; exact laws_szStringS.link _ _ _ _ (by assumption); exact BS.go)
  | (apply goK.k hP hn hx; exact laws_szEntryS.link _ _ _ _ (by assumption); exact BS.go)
  | (apply Ok.bk #[.tmp 4] hC hP hx hF; exact BR.go; exact BF.go; exact BF.go; exact BF.go; exact BM.go; exact BR.go; exact BR.go; exact BR.go; exact B1.go; exact BR.go))
set_option maxHeartbeats 8000000 in
theorem laws_szMonitorS.link (k : Nat) (l0 : List (S152)) (a1 : Int) (r : Int) (H : laws_szMonitorS.f k l0 a1 = some r) : ACalls Try.prog 92 [.dat false [.sl none 4 (List.flatMap e152 l0)], .dat false [.sc (.int .i64 a1)]] [(false, [.sc (.int .i64 r)])] [.dat false [.sl none 4 (List.flatMap e152 l0)], .dat false [.sc (.int .i64 a1)]] := by
 refine ACalls.enter Try.func92 (by kernel_rfl) rfl (by rw [Try.ntmps92]; exact Nat.le_of_ble_eq_true rfl) (fun C F hC hP hf hn hx => ?_)
 rw [Try.ntmps92] at hn
 have hF : Try.prog.funcs[C.fid]? = some Try.f92 := hf ▸ Try.func92
 replace hx : C.fx = [] := hx
 simp only [entry, entE, enumM, rwA, rwC, Nat.reduceAdd] at ⊢
 simp only [laws_szMonitorS.f, beq_dec, bne_dec, Bool.or_eq_true, Bool.and_eq_true, Bool.not_eq_true', decide_eq_true_eq, decide_eq_false_iff_not, ite_or', ite_and', ite_not', ge_iff_le, gt_iff_lt] at H
 repeat' first
  | (with_reducible replace H := sBindA H (by assumption))
  | (with_reducible replace H := sBind H); obtain ⟨t, hA, H⟩ := H
  | (with_reducible replace H := sBool H); obtain ⟨c, H⟩ | ⟨c, H⟩ := H
  | (with_reducible replace H := sEq H); obtain ⟨c, c', H⟩ | ⟨c, c', H⟩ := H
  | (with_reducible replace H := sEqL H); obtain ⟨c, H⟩ | ⟨c, H⟩ := H
  | (with_reducible replace H := sIte H); obtain ⟨c, H⟩ | ⟨c, H⟩ := H
  | (with_reducible replace H := sAnd H); obtain ⟨c, H⟩ | ⟨c, H⟩ := H
  | (with_reducible replace H := sOr H); obtain ⟨c, H⟩ | ⟨c, H⟩ := H
 all_goals first
  | cases H
  | replace H := Hold.mk H
 all_goals repeat (first
  | apply Ok.seq
  | apply Ok.skip
  | (apply Ok.rN [0, 1, 4, 5, 11, 15, 25] hP hn hx; exact BR.go; exact BV.go)
  | (apply Ok.gS)
  | (apply Ok.cn; exact BS.go)
  | apply Ok.block
  | apply Ok.inBlock
  | refine Ok.exit ?_ rfl
  | (apply goE.e [0, 1, 4, 5, 11, 15, 25] hP hn hx; exact BR.go; exact BV.go)
  | (apply goE.n hP hn hx; exact BR.go; exact BJ.go; exact BU.go)
  | (apply goE.q; exact BR.go; exact BG.go; exact BW.go)
  | (apply goQ.t hP; exact BR.go; exact BR.go; exact BS.go)
  | (apply goQ.f hx; exact BR.go; exact BR.go; exact BE.go)
  | (apply goK.k hP hn hx; exact laws_szMonitor.link _ _ _ _ _ _ _ (by assumption); exact BS.go)
  | (apply Ok.bk #[.tmp 4] hC hP hx hF; exact BR.go; exact BF.go; exact BF.go; exact BF.go; exact BM.go; exact BR.go; exact BR.go; exact BR.go; exact B1.go; exact BR.go)
  | (apply Ok.lq [0, 1, 5] (fun q X => ∃ x0, ∃ x1, ∃ x5, X = ⟨[(0, .dat false [.sl none 4 (List.flatMap e152 x0)]), (1, .dat false [.sc (.int .i64 x1)]), (5, .dat false [.sc (.int .i64 x5)])], []⟩ ∧ q ≤ k ∧ laws_szMonitorS.l0 q x0 x1 x5 = some r); exact BT.go; exact ⟨_, _, _, _, by first | rfl | (simp (disch := omega) only [go_sem, ↓reduceIte, eq_self, and_self]; done), by omega, H.out⟩))
 all_goals intro q0_1 X hJ ih0
 all_goals clear H
 all_goals obtain ⟨x0, x1, x5, rfl, hq, H⟩ := hJ
 all_goals (cases q0_1 with
  | zero => (simp only [laws_szMonitorS.l0] at H; cases H)
  | succ kq0_1 =>
   simp only [laws_szMonitorS.l0, beq_dec, bne_dec, Bool.or_eq_true, Bool.and_eq_true, Bool.not_eq_true', decide_eq_true_eq, decide_eq_false_iff_not, ite_or', ite_and', ite_not', ge_iff_le, gt_iff_lt] at H
   repeat' first
    | (with_reducible replace H := sBindA H (by assumption))
    | (with_reducible replace H := sBind H); obtain ⟨t, hA, H⟩ := H
    | (with_reducible replace H := sBool H); obtain ⟨c, H⟩ | ⟨c, H⟩ := H
    | (with_reducible replace H := sEq H); obtain ⟨c, c', H⟩ | ⟨c, c', H⟩ := H
    | (with_reducible replace H := sEqL H); obtain ⟨c, H⟩ | ⟨c, H⟩ := H
    | (with_reducible replace H := sIte H); obtain ⟨c, H⟩ | ⟨c, H⟩ := H
    | (with_reducible replace H := sAnd H); obtain ⟨c, H⟩ | ⟨c, H⟩ := H
    | (with_reducible replace H := sOr H); obtain ⟨c, H⟩ | ⟨c, H⟩ := H
   all_goals first
    | cases H
    | replace H := Hold.mk H
   all_goals repeat (first
    | apply Ok.seq
    | apply Ok.skip
    | (apply Ok.rN [0, 1, 4, 5, 11, 15, 25] hP hn hx; exact BR.go; exact BV.go)
    | (apply Ok.gS)
    | (apply Ok.cn; exact BS.go)
    | apply Ok.block
    | apply Ok.inBlock
    | refine Ok.exit ?_ rfl
    | (apply goE.e [0, 1, 4, 5, 11, 15, 25] hP hn hx; exact BR.go; exact BV.go)
    | (apply goE.n hP hn hx; exact BR.go; exact BJ.go; exact BU.go)
    | (apply goE.q; exact BR.go; exact BG.go; exact BW.go)
    | (apply goQ.t hP; exact BR.go; exact BR.go; exact BS.go)
    | (apply goQ.f hx; exact BR.go; exact BR.go; exact BE.go)
    | (apply goK.k hP hn hx; exact laws_szMonitor.link _ _ _ _ _ _ _ (by assumption); exact BS.go)
    | (apply Ok.bk #[.tmp 4] hC hP hx hF; exact BR.go; exact BF.go; exact BF.go; exact BF.go; exact BM.go; exact BR.go; exact BR.go; exact BR.go; exact B1.go; exact BR.go)
    | (apply Ok.ag [0, 1, 5] ih0; exact BT.go; exact ⟨_, by omega, _, _, _, by first | rfl | (simp (disch := omega) only [go_sem, ↓reduceIte, eq_self, and_self]; done), by omega, H.out⟩; done)))
set_option maxHeartbeats 8000000 in
theorem laws_szProcess.link (k : Nat) (a0_0 : ByteArray) (l0_1 : List ByteArray) (l0_2 : List ByteArray) (a0_3 : Int) (a1 : Int) (r : Int) (H : laws_szProcess.f k a0_0 l0_1 l0_2 a0_3 a1 = some r) : ACalls Try.prog 128 [.dat true [.sc (.string a0_0), .sl none 1 (List.flatMap eS l0_1), .sl none 1 (List.flatMap eS l0_2), .sc (.int .i64 a0_3)], .dat false [.sc (.int .i64 a1)]] [(false, [.sc (.int .i64 r)])] [.dat true [.sc (.string a0_0), .sl none 1 (List.flatMap eS l0_1), .sl none 1 (List.flatMap eS l0_2), .sc (.int .i64 a0_3)], .dat false [.sc (.int .i64 a1)]] := by
 refine ACalls.enter Try.func128 (by kernel_rfl) rfl (by rw [Try.ntmps128]; exact Nat.le_of_ble_eq_true rfl) (fun C F hC hP hf hn hx => ?_)
 rw [Try.ntmps128] at hn
 have hF : Try.prog.funcs[C.fid]? = some Try.f128 := hf ▸ Try.func128
 replace hx : C.fx = [] := hx
 simp only [entry, entE, enumM, rwA, rwC, Nat.reduceAdd] at ⊢
 simp only [laws_szProcess.f, beq_dec, bne_dec, Bool.or_eq_true, Bool.and_eq_true, Bool.not_eq_true', decide_eq_true_eq, decide_eq_false_iff_not, ite_or', ite_and', ite_not', ge_iff_le, gt_iff_lt] at H
 repeat' first
  | (with_reducible replace H := sBindA H (by assumption))
  | (with_reducible replace H := sBind H); obtain ⟨t, hA, H⟩ := H
  | (with_reducible replace H := sBool H); obtain ⟨c, H⟩ | ⟨c, H⟩ := H
  | (with_reducible replace H := sEq H); obtain ⟨c, c', H⟩ | ⟨c, c', H⟩ := H
  | (with_reducible replace H := sEqL H); obtain ⟨c, H⟩ | ⟨c, H⟩ := H
  | (with_reducible replace H := sIte H); obtain ⟨c, H⟩ | ⟨c, H⟩ := H
  | (with_reducible replace H := sAnd H); obtain ⟨c, H⟩ | ⟨c, H⟩ := H
  | (with_reducible replace H := sOr H); obtain ⟨c, H⟩ | ⟨c, H⟩ := H
 all_goals first
  | cases H
  | replace H := Hold.mk H
 all_goals repeat (first
  | apply Ok.seq
  | apply Ok.skip
  | (apply Ok.rN [0, 1, 2, 4, 11, 17, 23] hP hn hx; exact BR.go; exact BV.go)
  | (apply Ok.gS)
  | (apply Ok.cn; exact BS.go)
  | apply Ok.block
  | apply Ok.inBlock
  | refine Ok.exit ?_ rfl
  | (apply goE.e [0, 1, 2, 4, 11, 17, 23] hP hn hx; exact BR.go; exact BV.go)
  | (apply goE.n hP hn hx; exact BR.go; exact BJ.go; exact BU.go)
  | (apply goE.q; exact BR.go; exact BG.go; exact BW.go)
  | (apply goQ.t hP; exact BR.go; exact BR.go; exact BS.go)
  | (apply goQ.f hx; exact BR.go; exact BR.go; exact BE.go)
  | (apply goK.k hP hn hx; exact laws_szStringS.link _ _ _ _ (by assumption); exact BS.go)
  | (apply Ok.bk #[.tmp 4] hC hP hx hF; exact BR.go; exact BF.go; exact BF.go; exact BF.go; exact BM.go; exact BR.go; exact BR.go; exact BR.go; exact B1.go; exact BR.go))
set_option maxHeartbeats 8000000 in
theorem laws_szProcessS.link (k : Nat) (l0 : List (S154)) (a1 : Int) (r : Int) (H : laws_szProcessS.f k l0 a1 = some r) : ACalls Try.prog 93 [.dat false [.sl none 4 (List.flatMap e154 l0)], .dat false [.sc (.int .i64 a1)]] [(false, [.sc (.int .i64 r)])] [.dat false [.sl none 4 (List.flatMap e154 l0)], .dat false [.sc (.int .i64 a1)]] := by
 refine ACalls.enter Try.func93 (by kernel_rfl) rfl (by rw [Try.ntmps93]; exact Nat.le_of_ble_eq_true rfl) (fun C F hC hP hf hn hx => ?_)
 rw [Try.ntmps93] at hn
 have hF : Try.prog.funcs[C.fid]? = some Try.f93 := hf ▸ Try.func93
 replace hx : C.fx = [] := hx
 simp only [entry, entE, enumM, rwA, rwC, Nat.reduceAdd] at ⊢
 simp only [laws_szProcessS.f, beq_dec, bne_dec, Bool.or_eq_true, Bool.and_eq_true, Bool.not_eq_true', decide_eq_true_eq, decide_eq_false_iff_not, ite_or', ite_and', ite_not', ge_iff_le, gt_iff_lt] at H
 repeat' first
  | (with_reducible replace H := sBindA H (by assumption))
  | (with_reducible replace H := sBind H); obtain ⟨t, hA, H⟩ := H
  | (with_reducible replace H := sBool H); obtain ⟨c, H⟩ | ⟨c, H⟩ := H
  | (with_reducible replace H := sEq H); obtain ⟨c, c', H⟩ | ⟨c, c', H⟩ := H
  | (with_reducible replace H := sEqL H); obtain ⟨c, H⟩ | ⟨c, H⟩ := H
  | (with_reducible replace H := sIte H); obtain ⟨c, H⟩ | ⟨c, H⟩ := H
  | (with_reducible replace H := sAnd H); obtain ⟨c, H⟩ | ⟨c, H⟩ := H
  | (with_reducible replace H := sOr H); obtain ⟨c, H⟩ | ⟨c, H⟩ := H
 all_goals first
  | cases H
  | replace H := Hold.mk H
 all_goals repeat (first
  | apply Ok.seq
  | apply Ok.skip
  | (apply Ok.rN [0, 1, 4, 5, 11, 15, 25] hP hn hx; exact BR.go; exact BV.go)
  | (apply Ok.gS)
  | (apply Ok.cn; exact BS.go)
  | apply Ok.block
  | apply Ok.inBlock
  | refine Ok.exit ?_ rfl
  | (apply goE.e [0, 1, 4, 5, 11, 15, 25] hP hn hx; exact BR.go; exact BV.go)
  | (apply goE.n hP hn hx; exact BR.go; exact BJ.go; exact BU.go)
  | (apply goE.q; exact BR.go; exact BG.go; exact BW.go)
  | (apply goQ.t hP; exact BR.go; exact BR.go; exact BS.go)
  | (apply goQ.f hx; exact BR.go; exact BR.go; exact BE.go)
  | (apply goK.k hP hn hx; exact laws_szProcess.link _ _ _ _ _ _ _ (by assumption); exact BS.go)
  | (apply Ok.bk #[.tmp 4] hC hP hx hF; exact BR.go; exact BF.go; exact BF.go; exact BF.go; exact BM.go; exact BR.go; exact BR.go; exact BR.go; exact B1.go; exact BR.go)
  | (apply Ok.lq [0, 1, 5] (fun q X => ∃ x0, ∃ x1, ∃ x5, X = ⟨[(0, .dat false [.sl none 4 (List.flatMap e154 x0)]), (1, .dat false [.sc (.int .i64 x1)]), (5, .dat false [.sc (.int .i64 x5)])], []⟩ ∧ q ≤ k ∧ laws_szProcessS.l0 q x0 x1 x5 = some r); exact BT.go; exact ⟨_, _, _, _, by first | rfl | (simp (disch := omega) only [go_sem, ↓reduceIte, eq_self, and_self]; done), by omega, H.out⟩))
 all_goals intro q0_1 X hJ ih0
 all_goals clear H
 all_goals obtain ⟨x0, x1, x5, rfl, hq, H⟩ := hJ
 all_goals (cases q0_1 with
  | zero => (simp only [laws_szProcessS.l0] at H; cases H)
  | succ kq0_1 =>
   simp only [laws_szProcessS.l0, beq_dec, bne_dec, Bool.or_eq_true, Bool.and_eq_true, Bool.not_eq_true', decide_eq_true_eq, decide_eq_false_iff_not, ite_or', ite_and', ite_not', ge_iff_le, gt_iff_lt] at H
   repeat' first
    | (with_reducible replace H := sBindA H (by assumption))
    | (with_reducible replace H := sBind H); obtain ⟨t, hA, H⟩ := H
    | (with_reducible replace H := sBool H); obtain ⟨c, H⟩ | ⟨c, H⟩ := H
    | (with_reducible replace H := sEq H); obtain ⟨c, c', H⟩ | ⟨c, c', H⟩ := H
    | (with_reducible replace H := sEqL H); obtain ⟨c, H⟩ | ⟨c, H⟩ := H
    | (with_reducible replace H := sIte H); obtain ⟨c, H⟩ | ⟨c, H⟩ := H
    | (with_reducible replace H := sAnd H); obtain ⟨c, H⟩ | ⟨c, H⟩ := H
    | (with_reducible replace H := sOr H); obtain ⟨c, H⟩ | ⟨c, H⟩ := H
   all_goals first
    | cases H
    | replace H := Hold.mk H
   all_goals repeat (first
    | apply Ok.seq
    | apply Ok.skip
    | (apply Ok.rN [0, 1, 4, 5, 11, 15, 25] hP hn hx; exact BR.go; exact BV.go)
    | (apply Ok.gS)
    | (apply Ok.cn; exact BS.go)
    | apply Ok.block
    | apply Ok.inBlock
    | refine Ok.exit ?_ rfl
    | (apply goE.e [0, 1, 4, 5, 11, 15, 25] hP hn hx; exact BR.go; exact BV.go)
    | (apply goE.n hP hn hx; exact BR.go; exact BJ.go; exact BU.go)
    | (apply goE.q; exact BR.go; exact BG.go; exact BW.go)
    | (apply goQ.t hP; exact BR.go; exact BR.go; exact BS.go)
    | (apply goQ.f hx; exact BR.go; exact BR.go; exact BE.go)
    | (apply goK.k hP hn hx; exact laws_szProcess.link _ _ _ _ _ _ _ (by assumption); exact BS.go)
    | (apply Ok.bk #[.tmp 4] hC hP hx hF; exact BR.go; exact BF.go; exact BF.go; exact BF.go; exact BM.go; exact BR.go; exact BR.go; exact BR.go; exact B1.go; exact BR.go)
    | (apply Ok.ag [0, 1, 5] ih0; exact BT.go; exact ⟨_, by omega, _, _, _, by first | rfl | (simp (disch := omega) only [go_sem, ↓reduceIte, eq_self, and_self]; done), by omega, H.out⟩; done)))
end Go.Proofs.Ytegeahiflkjhmaa.PFnExactSameProgram
