/- Functions' walks: each computes what its plain form says. No condition. -/
import Derived.Test.YtegeahiflkjhmaaLkFnExactSameProgramh
import Derived.Test.YtegeahiflkjhmaaLkFnExactSameProgramd
open Go Go.Proofs Go.Proofs.Ytegeahiflkjhmaa.Abs
namespace Go.Proofs.Ytegeahiflkjhmaa.PFnExactSameProgram
open Go.RowKit Go.Proofs.YtegeahiflkjhmaaW.PrintWords Go.Proofs.YtegeahiflkjhmaaW.PrintLast Go.Proofs.YtegeahiflkjhmaaW.PrintMore
set_option linter.unusedVariables false
set_option linter.unusedSimpArgs false
set_option maxRecDepth 100000
attribute [local irreducible] evK evQ evM evF evW evH goE goK goKD goQ goQD goD Ok ACalls
set_option maxHeartbeats 8000000 in
theorem impl_sameMonitor.link (k : Nat) (a0_0 : ByteArray) (l0_1 : List ByteArray) (l0_2 : List ByteArray) (l0_3 : List (S125)) (a1_0 : ByteArray) (l1_1 : List ByteArray) (l1_2 : List ByteArray) (l1_3 : List (S125)) (r : Bool) (H : impl_sameMonitor.f k a0_0 l0_1 l0_2 l0_3 a1_0 l1_1 l1_2 l1_3 = some r) : ACalls Try.prog 112 [.dat true [.sc (.string a0_0), .sl none 1 (List.flatMap eS l0_1), .sl none 1 (List.flatMap eS l0_2), .sl none 3 (List.flatMap e125 l0_3)], .dat true [.sc (.string a1_0), .sl none 1 (List.flatMap eS l1_1), .sl none 1 (List.flatMap eS l1_2), .sl none 3 (List.flatMap e125 l1_3)]] [(false, [.sc (.bool r)])] [.dat true [.sc (.string a0_0), .sl none 1 (List.flatMap eS l0_1), .sl none 1 (List.flatMap eS l0_2), .sl none 3 (List.flatMap e125 l0_3)], .dat true [.sc (.string a1_0), .sl none 1 (List.flatMap eS l1_1), .sl none 1 (List.flatMap eS l1_2), .sl none 3 (List.flatMap e125 l1_3)]] := by
 refine ACalls.enter Try.func112 (by kernel_rfl) rfl (by rw [Try.ntmps112]; exact Nat.le_of_ble_eq_true rfl) (fun C F hC hP hf hn hx => ?_)
 rw [Try.ntmps112] at hn
 have hF : Try.prog.funcs[C.fid]? = some Try.f112 := hf ▸ Try.func112
 replace hx : C.fx = [] := hx
 simp only [entry, entE, enumM, rwA, rwC, Nat.reduceAdd] at ⊢
 simp only [impl_sameMonitor.f, beq_dec, bne_dec, Bool.or_eq_true, Bool.and_eq_true, Bool.not_eq_true', decide_eq_true_eq, decide_eq_false_iff_not, ite_or', ite_and', ite_not', ge_iff_le, gt_iff_lt] at H
 repeat' first
  | (with_reducible replace H := sBindA H (by assumption))
  | (with_reducible replace H := sBind H); obtain ⟨t, hA, H⟩ := H
  | (with_reducible replace H := sBool H); obtain ⟨c, H⟩ | ⟨c, H⟩ := H
  | (with_reducible replace H := sEq H); obtain ⟨c, c', H⟩ | ⟨c, c', H⟩ := H
  | (with_reducible replace H := sEqL H); obtain ⟨c, H⟩ | ⟨c, H⟩ := H
  | (with_reducible replace H := sIte H); obtain ⟨c, H⟩ | ⟨c, H⟩ := H
  | (with_reducible replace H := sAnd H); obtain ⟨c, H⟩ | ⟨c, H⟩ := H
  | (with_reducible replace H := sOr H); obtain ⟨c, H⟩ | ⟨c, H⟩ := H
 all_goals first
  | cases H
  | replace H := Hold.mk H
 all_goals repeat (first
  | apply Ok.seq
  | apply Ok.skip
  | (apply Ok.rN [0, 1, 2, 3, 4] hP hn hx; exact BR.go; exact BV.go)
  | (apply Ok.gS)
  | (apply Ok.cn; exact BS.go)
  | apply Ok.block
  | apply Ok.inBlock
  | refine Ok.exit ?_ rfl
  | (apply goE.e [0, 1, 2, 3, 4] hP hn hx; exact BR.go; exact BV.go)
  | (apply goE.n hP hn hx; exact BR.go; exact BJ.go; exact BU.go)
  | (apply goE.q; exact BR.go; exact BG.go; exact BW.go)
  | (apply goQ.t hP; exact BR.go; exact BR.go; exact BS.go)
  | (apply goQ.f hx; exact BR.go; exact BR.go; exact BE.go)
  | (apply goK.k hP hn hx; exact slices_Equal_string_string.link _ _ _ _ (by assumption); exact BS.go)
  | (apply goK.k hP hn hx; exact impl_Entry.link _ _ _ _ (by assumption); exact BS.go)
  | (apply Ok.bk #[.tmp 4] hC hP hx hF; exact BR.go; exact BF.go; exact BF.go; exact BF.go; exact BM.go; exact BR.go; exact BR.go; exact BR.go; exact B1.go; exact BR.go))
set_option maxHeartbeats 8000000 in
theorem impl_sameProcess.link (k : Nat) (a0_0 : ByteArray) (l0_1 : List ByteArray) (l0_2 : List ByteArray) (a0_3 : Int) (a1_0 : ByteArray) (l1_1 : List ByteArray) (l1_2 : List ByteArray) (a1_3 : Int) (r : Bool) (H : impl_sameProcess.f k a0_0 l0_1 l0_2 a0_3 a1_0 l1_1 l1_2 a1_3 = some r) : ACalls Try.prog 114 [.dat true [.sc (.string a0_0), .sl none 1 (List.flatMap eS l0_1), .sl none 1 (List.flatMap eS l0_2), .sc (.int .i64 a0_3)], .dat true [.sc (.string a1_0), .sl none 1 (List.flatMap eS l1_1), .sl none 1 (List.flatMap eS l1_2), .sc (.int .i64 a1_3)]] [(false, [.sc (.bool r)])] [.dat true [.sc (.string a0_0), .sl none 1 (List.flatMap eS l0_1), .sl none 1 (List.flatMap eS l0_2), .sc (.int .i64 a0_3)], .dat true [.sc (.string a1_0), .sl none 1 (List.flatMap eS l1_1), .sl none 1 (List.flatMap eS l1_2), .sc (.int .i64 a1_3)]] := by
 refine ACalls.enter Try.func114 (by kernel_rfl) rfl (by rw [Try.ntmps114]; exact Nat.le_of_ble_eq_true rfl) (fun C F hC hP hf hn hx => ?_)
 rw [Try.ntmps114] at hn
 have hF : Try.prog.funcs[C.fid]? = some Try.f114 := hf ▸ Try.func114
 replace hx : C.fx = [] := hx
 simp only [entry, entE, enumM, rwA, rwC, Nat.reduceAdd] at ⊢
 simp only [impl_sameProcess.f, beq_dec, bne_dec, Bool.or_eq_true, Bool.and_eq_true, Bool.not_eq_true', decide_eq_true_eq, decide_eq_false_iff_not, ite_or', ite_and', ite_not', ge_iff_le, gt_iff_lt] at H
 repeat' first
  | (with_reducible replace H := sBindA H (by assumption))
  | (with_reducible replace H := sBind H); obtain ⟨t, hA, H⟩ := H
  | (with_reducible replace H := sBool H); obtain ⟨c, H⟩ | ⟨c, H⟩ := H
  | (with_reducible replace H := sEq H); obtain ⟨c, c', H⟩ | ⟨c, c', H⟩ := H
  | (with_reducible replace H := sEqL H); obtain ⟨c, H⟩ | ⟨c, H⟩ := H
  | (with_reducible replace H := sIte H); obtain ⟨c, H⟩ | ⟨c, H⟩ := H
  | (with_reducible replace H := sAnd H); obtain ⟨c, H⟩ | ⟨c, H⟩ := H
  | (with_reducible replace H := sOr H); obtain ⟨c, H⟩ | ⟨c, H⟩ := H
 all_goals first
  | cases H
  | replace H := Hold.mk H
 all_goals repeat (first
  | apply Ok.seq
  | apply Ok.skip
  | (apply Ok.rN [0, 1, 2, 3, 4] hP hn hx; exact BR.go; exact BV.go)
  | (apply Ok.gS)
  | (apply Ok.cn; exact BS.go)
  | apply Ok.block
  | apply Ok.inBlock
  | refine Ok.exit ?_ rfl
  | (apply goE.e [0, 1, 2, 3, 4] hP hn hx; exact BR.go; exact BV.go)
  | (apply goE.n hP hn hx; exact BR.go; exact BJ.go; exact BU.go)
  | (apply goE.q; exact BR.go; exact BG.go; exact BW.go)
  | (apply goQ.t hP; exact BR.go; exact BR.go; exact BS.go)
  | (apply goQ.f hx; exact BR.go; exact BR.go; exact BE.go)
  | (apply goK.k hP hn hx; exact slices_Equal_string_string.link _ _ _ _ (by assumption); exact BS.go)
  | (apply Ok.bk #[.tmp 4] hC hP hx hF; exact BR.go; exact BF.go; exact BF.go; exact BF.go; exact BM.go; exact BR.go; exact BR.go; exact BR.go; exact B1.go; exact BR.go))
set_option maxHeartbeats 8000000 in
theorem impl_Node_impl_sameNode.link (k : Nat) (l0 : List (S132)) (l1 : List (S132)) (r : Bool) (H : impl_Node_impl_sameNode.f k l0 l1 = some r) : ACalls Try.prog 109 [.dat false [.sl none 6 (List.flatMap e132 l0)], .dat false [.sl none 6 (List.flatMap e132 l1)], .clo 110 []] [(false, [.sc (.bool r)])] [.dat false [.sl none 6 (List.flatMap e132 l0)], .dat false [.sl none 6 (List.flatMap e132 l1)], .clo 110 []] := by
 refine ACalls.enter Try.func109 (by kernel_rfl) rfl (by rw [Try.ntmps109]; exact Nat.le_of_ble_eq_true rfl) (fun C F hC hP hf hn hx => ?_)
 rw [Try.ntmps109] at hn
 have hF : Try.prog.funcs[C.fid]? = some Try.f109 := hf ▸ Try.func109
 replace hx : C.fx = [2] := hx
 simp only [entry, entE, enumM, rwA, rwC, Nat.reduceAdd] at ⊢
 simp only [impl_Node_impl_sameNode.f, beq_dec, bne_dec, Bool.or_eq_true, Bool.and_eq_true, Bool.not_eq_true', decide_eq_true_eq, decide_eq_false_iff_not, ite_or', ite_and', ite_not', ge_iff_le, gt_iff_lt] at H
 repeat' first
  | (with_reducible replace H := sBindA H (by assumption))
  | (with_reducible replace H := sBind H); obtain ⟨t, hA, H⟩ := H
  | (with_reducible replace H := sBool H); obtain ⟨c, H⟩ | ⟨c, H⟩ := H
  | (with_reducible replace H := sEq H); obtain ⟨c, c', H⟩ | ⟨c, c', H⟩ := H
  | (with_reducible replace H := sEqL H); obtain ⟨c, H⟩ | ⟨c, H⟩ := H
  | (with_reducible replace H := sIte H); obtain ⟨c, H⟩ | ⟨c, H⟩ := H
  | (with_reducible replace H := sAnd H); obtain ⟨c, H⟩ | ⟨c, H⟩ := H
  | (with_reducible replace H := sOr H); obtain ⟨c, H⟩ | ⟨c, H⟩ := H
 all_goals first
  | cases H
  | replace H := Hold.mk H
 all_goals repeat (first
  | apply Ok.seq
  | apply Ok.skip
  | (apply Ok.rN [0, 1, 2, 6, 7, 8, 9, 14, 15, 16, 17, 18, 30] hP hn hx; exact BR.go; exact BV.go)
  | (apply Ok.gS)
  | (apply Ok.cn; exact BS.go)
  | apply Ok.block
  | apply Ok.inBlock
  | refine Ok.exit ?_ rfl
  | (apply goE.e [0, 1, 2, 6, 7, 8, 9, 14, 15, 16, 17, 18, 30] hP hn hx; exact BR.go; exact BV.go)
  | (apply goE.n hP hn hx; exact BR.go; exact BJ.go; exact BU.go)
  | (apply goE.q; exact BR.go; exact BG.go; exact BW.go)
  | (apply goQ.t hP; exact BR.go; exact BR.go; exact BS.go)
  | (apply goQ.f hx; exact BR.go; exact BR.go; exact BE.go)
  | (apply goK.k hP hn hx; exact impl_sameNode.link _ _ _ _ _ _ _ _ _ _ _ _ _ _ (by assumption); exact BS.go)
  | (apply Ok.bk #[.tmp 6] hC hP hx hF; exact BR.go; exact BF.go; exact BF.go; exact BF.go; exact BM.go; exact BR.go; exact BR.go; exact BR.go; exact B1.go; exact BR.go)
  | (apply Ok.lq [1, 2, 15, 16, 17] (fun q X => ∃ x1, ∃ x15, ∃ x16, ∃ x17, X = ⟨[(1, .dat false [.sl none 6 (List.flatMap e132 x1)]), (2, .clo 110 []), (15, .dat false [.sl none 6 (List.flatMap e132 x15)]), (16, .dat false [.sc (.int .i64 x16)]), (17, .dat false [.sc (.int .i64 x17)])], []⟩ ∧ q ≤ k ∧ impl_Node_impl_sameNode.l0 q x1 x15 x16 x17 = some r); exact BT.go; exact ⟨_, _, _, _, _, by first | rfl | (simp (disch := omega) only [go_sem, ↓reduceIte, eq_self, and_self]; done), by omega, H.out⟩))
 all_goals intro q0_1 X hJ ih0
 all_goals clear H
 all_goals obtain ⟨x1, x15, x16, x17, rfl, hq, H⟩ := hJ
 all_goals (cases q0_1 with
  | zero => (simp only [impl_Node_impl_sameNode.l0] at H; cases H)
  | succ kq0_1 =>
   simp only [impl_Node_impl_sameNode.l0, beq_dec, bne_dec, Bool.or_eq_true, Bool.and_eq_true, Bool.not_eq_true', decide_eq_true_eq, decide_eq_false_iff_not, ite_or', ite_and', ite_not', ge_iff_le, gt_iff_lt] at H
   repeat' first
    | (with_reducible replace H := sBindA H (by assumption))
    | (with_reducible replace H := sBind H); obtain ⟨t, hA, H⟩ := H
    | (with_reducible replace H := sBool H); obtain ⟨c, H⟩ | ⟨c, H⟩ := H
    | (with_reducible replace H := sEq H); obtain ⟨c, c', H⟩ | ⟨c, c', H⟩ := H
    | (with_reducible replace H := sEqL H); obtain ⟨c, H⟩ | ⟨c, H⟩ := H
    | (with_reducible replace H := sIte H); obtain ⟨c, H⟩ | ⟨c, H⟩ := H
    | (with_reducible replace H := sAnd H); obtain ⟨c, H⟩ | ⟨c, H⟩ := H
    | (with_reducible replace H := sOr H); obtain ⟨c, H⟩ | ⟨c, H⟩ := H
   all_goals first
    | cases H
    | replace H := Hold.mk H
   all_goals repeat (first
    | apply Ok.seq
    | apply Ok.skip
    | (apply Ok.rN [0, 1, 2, 6, 7, 8, 9, 14, 15, 16, 17, 18, 30] hP hn hx; exact BR.go; exact BV.go)
    | (apply Ok.gS)
    | (apply Ok.cn; exact BS.go)
    | apply Ok.block
    | apply Ok.inBlock
    | refine Ok.exit ?_ rfl
    | (apply goE.e [0, 1, 2, 6, 7, 8, 9, 14, 15, 16, 17, 18, 30] hP hn hx; exact BR.go; exact BV.go)
    | (apply goE.n hP hn hx; exact BR.go; exact BJ.go; exact BU.go)
    | (apply goE.q; exact BR.go; exact BG.go; exact BW.go)
    | (apply goQ.t hP; exact BR.go; exact BR.go; exact BS.go)
    | (apply goQ.f hx; exact BR.go; exact BR.go; exact BE.go)
    | (apply goK.k hP hn hx; exact impl_sameNode.link _ _ _ _ _ _ _ _ _ _ _ _ _ _ (by assumption); exact BS.go)
    | (apply Ok.bk #[.tmp 6] hC hP hx hF; exact BR.go; exact BF.go; exact BF.go; exact BF.go; exact BM.go; exact BR.go; exact BR.go; exact BR.go; exact B1.go; exact BR.go)
    | (apply Ok.ag [1, 2, 15, 16, 17] ih0; exact BT.go; exact ⟨_, by omega, _, _, _, _, by first | rfl | (simp (disch := omega) only [go_sem, ↓reduceIte, eq_self, and_self]; done), by omega, H.out⟩; done)))
set_option maxHeartbeats 8000000 in
theorem impl_Monitor_impl_sameMonitor.link (k : Nat) (l0 : List (S114)) (l1 : List (S114)) (r : Bool) (H : impl_Monitor_impl_sameMonitor.f k l0 l1 = some r) : ACalls Try.prog 111 [.dat false [.sl none 4 (List.flatMap e114 l0)], .dat false [.sl none 4 (List.flatMap e114 l1)], .clo 112 []] [(false, [.sc (.bool r)])] [.dat false [.sl none 4 (List.flatMap e114 l0)], .dat false [.sl none 4 (List.flatMap e114 l1)], .clo 112 []] := by
 refine ACalls.enter Try.func111 (by kernel_rfl) rfl (by rw [Try.ntmps111]; exact Nat.le_of_ble_eq_true rfl) (fun C F hC hP hf hn hx => ?_)
 rw [Try.ntmps111] at hn
 have hF : Try.prog.funcs[C.fid]? = some Try.f111 := hf ▸ Try.func111
 replace hx : C.fx = [2] := hx
 simp only [entry, entE, enumM, rwA, rwC, Nat.reduceAdd] at ⊢
 simp only [impl_Monitor_impl_sameMonitor.f, beq_dec, bne_dec, Bool.or_eq_true, Bool.and_eq_true, Bool.not_eq_true', decide_eq_true_eq, decide_eq_false_iff_not, ite_or', ite_and', ite_not', ge_iff_le, gt_iff_lt] at H
 repeat' first
  | (with_reducible replace H := sBindA H (by assumption))
  | (with_reducible replace H := sBind H); obtain ⟨t, hA, H⟩ := H
  | (with_reducible replace H := sBool H); obtain ⟨c, H⟩ | ⟨c, H⟩ := H
  | (with_reducible replace H := sEq H); obtain ⟨c, c', H⟩ | ⟨c, c', H⟩ := H
  | (with_reducible replace H := sEqL H); obtain ⟨c, H⟩ | ⟨c, H⟩ := H
  | (with_reducible replace H := sIte H); obtain ⟨c, H⟩ | ⟨c, H⟩ := H
  | (with_reducible replace H := sAnd H); obtain ⟨c, H⟩ | ⟨c, H⟩ := H
  | (with_reducible replace H := sOr H); obtain ⟨c, H⟩ | ⟨c, H⟩ := H
 all_goals first
  | cases H
  | replace H := Hold.mk H
 all_goals repeat (first
  | apply Ok.seq
  | apply Ok.skip
  | (apply Ok.rN [0, 1, 2, 6, 7, 8, 9, 14, 15, 16, 17, 18, 30] hP hn hx; exact BR.go; exact BV.go)
  | (apply Ok.gS)
  | (apply Ok.cn; exact BS.go)
  | apply Ok.block
  | apply Ok.inBlock
  | refine Ok.exit ?_ rfl
  | (apply goE.e [0, 1, 2, 6, 7, 8, 9, 14, 15, 16, 17, 18, 30] hP hn hx; exact BR.go; exact BV.go)
  | (apply goE.n hP hn hx; exact BR.go; exact BJ.go; exact BU.go)
  | (apply goE.q; exact BR.go; exact BG.go; exact BW.go)
  | (apply goQ.t hP; exact BR.go; exact BR.go; exact BS.go)
  | (apply goQ.f hx; exact BR.go; exact BR.go; exact BE.go)
  | (apply goK.k hP hn hx; exact impl_sameMonitor.link _ _ _ _ _ _ _ _ _ _ (by assumption); exact BS.go)
  | (apply Ok.bk #[.tmp 6] hC hP hx hF; exact BR.go; exact BF.go; exact BF.go; exact BF.go; exact BM.go; exact BR.go; exact BR.go; exact BR.go; exact B1.go; exact BR.go)
  | (apply Ok.lq [1, 2, 15, 16, 17] (fun q X => ∃ x1, ∃ x15, ∃ x16, ∃ x17, X = ⟨[(1, .dat false [.sl none 4 (List.flatMap e114 x1)]), (2, .clo 112 []), (15, .dat false [.sl none 4 (List.flatMap e114 x15)]), (16, .dat false [.sc (.int .i64 x16)]), (17, .dat false [.sc (.int .i64 x17)])], []⟩ ∧ q ≤ k ∧ impl_Monitor_impl_sameMonitor.l0 q x1 x15 x16 x17 = some r); exact BT.go; exact ⟨_, _, _, _, _, by first | rfl | (simp (disch := omega) only [go_sem, ↓reduceIte, eq_self, and_self]; done), by omega, H.out⟩))
 all_goals intro q0_1 X hJ ih0
 all_goals clear H
 all_goals obtain ⟨x1, x15, x16, x17, rfl, hq, H⟩ := hJ
 all_goals (cases q0_1 with
  | zero => (simp only [impl_Monitor_impl_sameMonitor.l0] at H; cases H)
  | succ kq0_1 =>
   simp only [impl_Monitor_impl_sameMonitor.l0, beq_dec, bne_dec, Bool.or_eq_true, Bool.and_eq_true, Bool.not_eq_true', decide_eq_true_eq, decide_eq_false_iff_not, ite_or', ite_and', ite_not', ge_iff_le, gt_iff_lt] at H
   repeat' first
    | (with_reducible replace H := sBindA H (by assumption))
    | (with_reducible replace H := sBind H); obtain ⟨t, hA, H⟩ := H
    | (with_reducible replace H := sBool H); obtain ⟨c, H⟩ | ⟨c, H⟩ := H
    | (with_reducible replace H := sEq H); obtain ⟨c, c', H⟩ | ⟨c, c', H⟩ := H
    | (with_reducible replace H := sEqL H); obtain ⟨c, H⟩ | ⟨c, H⟩ := H
    | (with_reducible replace H := sIte H); obtain ⟨c, H⟩ | ⟨c, H⟩ := H
    | (with_reducible replace H := sAnd H); obtain ⟨c, H⟩ | ⟨c, H⟩ := H
    | (with_reducible replace H := sOr H); obtain ⟨c, H⟩ | ⟨c, H⟩ := H
   all_goals first
    | cases H
    | replace H := Hold.mk H
   all_goals repeat (first
    | apply Ok.seq
    | apply Ok.skip
    | (apply Ok.rN [0, 1, 2, 6, 7, 8, 9, 14, 15, 16, 17, 18, 30] hP hn hx; exact BR.go; exact BV.go)
    | (apply Ok.gS)
    | (apply Ok.cn; exact BS.go)
    | apply Ok.block
    | apply Ok.inBlock
    | refine Ok.exit ?_ rfl
    | (apply goE.e [0, 1, 2, 6, 7, 8, 9, 14, 15, 16, 17, 18, 30] hP hn hx; exact BR.go; exact BV.go)
    | (apply goE.n hP hn hx; exact BR.go; exact BJ.go; exact BU.go)
    | (apply goE.q; exact BR.go; exact BG.go; exact BW.go)
    | (apply goQ.t hP; exact BR.go; exact BR.go; exact BS.go)
    | (apply goQ.f hx; exact BR.go; exact BR.go; exact BE.go)
    | (apply goK.k hP hn hx; exact impl_sameMonitor.link _ _ _ _ _ _ _ _ _ _ (by assumption); exact BS.go)
    | (apply Ok.bk #[.tmp 6] hC hP hx hF; exact BR.go; exact BF.go; exact BF.go; exact BF.go; exact BM.go; exact BR.go; exact BR.go; exact BR.go; exact B1.go; exact BR.go)
    | (apply Ok.ag [1, 2, 15, 16, 17] ih0; exact BT.go; exact ⟨_, by omega, _, _, _, _, by first | rfl | (simp (disch := omega) only [go_sem, ↓reduceIte, eq_self, and_self]; done), by omega, H.out⟩; done)))
set_option maxHeartbeats 8000000 in
theorem impl_Process_impl_sameProcess.link (k : Nat) (l0 : List (S130)) (l1 : List (S130)) (r : Bool) (H : impl_Process_impl_sameProcess.f k l0 l1 = some r) : ACalls Try.prog 113 [.dat false [.sl none 4 (List.flatMap e130 l0)], .dat false [.sl none 4 (List.flatMap e130 l1)], .clo 114 []] [(false, [.sc (.bool r)])] [.dat false [.sl none 4 (List.flatMap e130 l0)], .dat false [.sl none 4 (List.flatMap e130 l1)], .clo 114 []] := by
 refine ACalls.enter Try.func113 (by kernel_rfl) rfl (by rw [Try.ntmps113]; exact Nat.le_of_ble_eq_true rfl) (fun C F hC hP hf hn hx => ?_)
 rw [Try.ntmps113] at hn
 have hF : Try.prog.funcs[C.fid]? = some Try.f113 := hf ▸ Try.func113
 replace hx : C.fx = [2] := hx
 simp only [entry, entE, enumM, rwA, rwC, Nat.reduceAdd] at ⊢
 simp only [impl_Process_impl_sameProcess.f, beq_dec, bne_dec, Bool.or_eq_true, Bool.and_eq_true, Bool.not_eq_true', decide_eq_true_eq, decide_eq_false_iff_not, ite_or', ite_and', ite_not', ge_iff_le, gt_iff_lt] at H
 repeat' first
  | (with_reducible replace H := sBindA H (by assumption))
  | (with_reducible replace H := sBind H); obtain ⟨t, hA, H⟩ := H
  | (with_reducible replace H := sBool H); obtain ⟨c, H⟩ | ⟨c, H⟩ := H
  | (with_reducible replace H := sEq H); obtain ⟨c, c', H⟩ | ⟨c, c', H⟩ := H
  | (with_reducible replace H := sEqL H); obtain ⟨c, H⟩ | ⟨c, H⟩ := H
  | (with_reducible replace H := sIte H); obtain ⟨c, H⟩ | ⟨c, H⟩ := H
  | (with_reducible replace H := sAnd H); obtain ⟨c, H⟩ | ⟨c, H⟩ := H
  | (with_reducible replace H := sOr H); obtain ⟨c, H⟩ | ⟨c, H⟩ := H
 all_goals first
  | cases H
  | replace H := Hold.mk H
 all_goals repeat (first
  | apply Ok.seq
  | apply Ok.skip
  | (apply Ok.rN [0, 1, 2, 6, 7, 8, 9, 14, 15, 16, 17, 18, 30] hP hn hx; exact BR.go; exact BV.go)
  | (apply Ok.gS)
  | (apply Ok.cn; exact BS.go)
  | apply Ok.block
  | apply Ok.inBlock
  | refine Ok.exit ?_ rfl
  | (apply goE.e [0, 1, 2, 6, 7, 8, 9, 14, 15, 16, 17, 18, 30] hP hn hx; exact BR.go; exact BV.go)
  | (apply goE.n hP hn hx; exact BR.go; exact BJ.go; exact BU.go)
  | (apply goE.q; exact BR.go; exact BG.go; exact BW.go)
  | (apply goQ.t hP; exact BR.go; exact BR.go; exact BS.go)
  | (apply goQ.f hx; exact BR.go; exact BR.go; exact BE.go)
  | (apply goK.k hP hn hx; exact impl_sameProcess.link _ _ _ _ _ _ _ _ _ _ (by assumption); exact BS.go)
  | (apply Ok.bk #[.tmp 6] hC hP hx hF; exact BR.go; exact BF.go; exact BF.go; exact BF.go; exact BM.go; exact BR.go; exact BR.go; exact BR.go; exact B1.go; exact BR.go)
  | (apply Ok.lq [1, 2, 15, 16, 17] (fun q X => ∃ x1, ∃ x15, ∃ x16, ∃ x17, X = ⟨[(1, .dat false [.sl none 4 (List.flatMap e130 x1)]), (2, .clo 114 []), (15, .dat false [.sl none 4 (List.flatMap e130 x15)]), (16, .dat false [.sc (.int .i64 x16)]), (17, .dat false [.sc (.int .i64 x17)])], []⟩ ∧ q ≤ k ∧ impl_Process_impl_sameProcess.l0 q x1 x15 x16 x17 = some r); exact BT.go; exact ⟨_, _, _, _, _, by first | rfl | (simp (disch := omega) only [go_sem, ↓reduceIte, eq_self, and_self]; done), by omega, H.out⟩))
 all_goals intro q0_1 X hJ ih0
 all_goals clear H
 all_goals obtain ⟨x1, x15, x16, x17, rfl, hq, H⟩ := hJ
 all_goals (cases q0_1 with
  | zero => (simp only [impl_Process_impl_sameProcess.l0] at H; cases H)
  | succ kq0_1 =>
   simp only [impl_Process_impl_sameProcess.l0, beq_dec, bne_dec, Bool.or_eq_true, Bool.and_eq_true, Bool.not_eq_true', decide_eq_true_eq, decide_eq_false_iff_not, ite_or', ite_and', ite_not', ge_iff_le, gt_iff_lt] at H
   repeat' first
    | (with_reducible replace H := sBindA H (by assumption))
    | (with_reducible replace H := sBind H); obtain ⟨t, hA, H⟩ := H
    | (with_reducible replace H := sBool H); obtain ⟨c, H⟩ | ⟨c, H⟩ := H
    | (with_reducible replace H := sEq H); obtain ⟨c, c', H⟩ | ⟨c, c', H⟩ := H
    | (with_reducible replace H := sEqL H); obtain ⟨c, H⟩ | ⟨c, H⟩ := H
    | (with_reducible replace H := sIte H); obtain ⟨c, H⟩ | ⟨c, H⟩ := H
    | (with_reducible replace H := sAnd H); obtain ⟨c, H⟩ | ⟨c, H⟩ := H
    | (with_reducible replace H := sOr H); obtain ⟨c, H⟩ | ⟨c, H⟩ := H
   all_goals first
    | cases H
    | replace H := Hold.mk H
   all_goals repeat (first
    | apply Ok.seq
    | apply Ok.skip
    | (apply Ok.rN [0, 1, 2, 6, 7, 8, 9, 14, 15, 16, 17, 18, 30] hP hn hx; exact BR.go; exact BV.go)
    | (apply Ok.gS)
    | (apply Ok.cn; exact BS.go)
    | apply Ok.block
    | apply Ok.inBlock
    | refine Ok.exit ?_ rfl
    | (apply goE.e [0, 1, 2, 6, 7, 8, 9, 14, 15, 16, 17, 18, 30] hP hn hx; exact BR.go; exact BV.go)
    | (apply goE.n hP hn hx; exact BR.go; exact BJ.go; exact BU.go)
    | (apply goE.q; exact BR.go; exact BG.go; exact BW.go)
    | (apply goQ.t hP; exact BR.go; exact BR.go; exact BS.go)
    | (apply goQ.f hx; exact BR.go; exact BR.go; exact BE.go)
    | (apply goK.k hP hn hx; exact impl_sameProcess.link _ _ _ _ _ _ _ _ _ _ (by assumption); exact BS.go)
    | (apply Ok.bk #[.tmp 6] hC hP hx hF; exact BR.go; exact BF.go; exact BF.go; exact BF.go; exact BM.go; exact BR.go; exact BR.go; exact BR.go; exact B1.go; exact BR.go)
    | (apply Ok.ag [1, 2, 15, 16, 17] ih0; exact BT.go; exact ⟨_, by omega, _, _, _, _, by first | rfl | (simp (disch := omega) only [go_sem, ↓reduceIte, eq_self, and_self]; done), by omega, H.out⟩; done)))
set_option maxHeartbeats 8000000 in
theorem impl_SameProgram.link (k : Nat) (l0_0 : List (S132)) (l0_1 : List (S114)) (l0_2 : List (S130)) (l1_0 : List (S132)) (l1_1 : List (S114)) (l1_2 : List (S130)) (r : Bool) (H : impl_SameProgram.f k l0_0 l0_1 l0_2 l1_0 l1_1 l1_2 = some r) : ACalls Try.prog 54 [.dat true [.sl none 6 (List.flatMap e132 l0_0), .sl none 4 (List.flatMap e114 l0_1), .sl none 4 (List.flatMap e130 l0_2)], .dat true [.sl none 6 (List.flatMap e132 l1_0), .sl none 4 (List.flatMap e114 l1_1), .sl none 4 (List.flatMap e130 l1_2)]] [(false, [.sc (.bool r)])] [.dat true [.sl none 6 (List.flatMap e132 l0_0), .sl none 4 (List.flatMap e114 l0_1), .sl none 4 (List.flatMap e130 l0_2)], .dat true [.sl none 6 (List.flatMap e132 l1_0), .sl none 4 (List.flatMap e114 l1_1), .sl none 4 (List.flatMap e130 l1_2)]] := by
 refine ACalls.enter Try.func54 (by kernel_rfl) rfl (by rw [Try.ntmps54]; exact Nat.le_of_ble_eq_true rfl) (fun C F hC hP hf hn hx => ?_)
 rw [Try.ntmps54] at hn
 have hF : Try.prog.funcs[C.fid]? = some Try.f54 := hf ▸ Try.func54
 replace hx : C.fx = [] := hx
 simp only [entry, entE, enumM, rwA, rwC, Nat.reduceAdd] at ⊢
 simp only [impl_SameProgram.f, beq_dec, bne_dec, Bool.or_eq_true, Bool.and_eq_true, Bool.not_eq_true', decide_eq_true_eq, decide_eq_false_iff_not, ite_or', ite_and', ite_not', ge_iff_le, gt_iff_lt] at H
 repeat' first
  | (with_reducible replace H := sBindA H (by assumption))
  | (with_reducible replace H := sBind H); obtain ⟨t, hA, H⟩ := H
  | (with_reducible replace H := sBool H); obtain ⟨c, H⟩ | ⟨c, H⟩ := H
  | (with_reducible replace H := sEq H); obtain ⟨c, c', H⟩ | ⟨c, c', H⟩ := H
  | (with_reducible replace H := sEqL H); obtain ⟨c, H⟩ | ⟨c, H⟩ := H
  | (with_reducible replace H := sIte H); obtain ⟨c, H⟩ | ⟨c, H⟩ := H
  | (with_reducible replace H := sAnd H); obtain ⟨c, H⟩ | ⟨c, H⟩ := H
  | (with_reducible replace H := sOr H); obtain ⟨c, H⟩ | ⟨c, H⟩ := H
 all_goals first
  | cases H
  | replace H := Hold.mk H
 all_goals repeat (first
  | apply Ok.seq
  | apply Ok.skip
  | (apply Ok.rN [0, 1, 2, 3, 4] hP hn hx; exact BR.go; exact BV.go)
  | (apply Ok.gS)
  | (apply Ok.cn; exact BS.go)
  | apply Ok.block
  | apply Ok.inBlock
  | refine Ok.exit ?_ rfl
  | (apply goE.e [0, 1, 2, 3, 4] hP hn hx; exact BR.go; exact BV.go)
  | (apply goE.n hP hn hx; exact BR.go; exact BJ.go; exact BU.go)
  | (apply goE.q; exact BR.go; exact BG.go; exact BW.go)
  | (apply goQ.t hP; exact BR.go; exact BR.go; exact BS.go)
  | (apply goQ.f hx; exact BR.go; exact BR.go; exact BE.go)
  | (apply goK.k hP hn hx; exact impl_Node_impl_sameNode.link _ _ _ _ (by assumption); exact BS.go)
  | (apply goK.k hP hn hx; exact impl_Monitor_impl_sameMonitor.link _ _ _ _ (by assumption); exact BS.go)
  | (apply goK.k hP hn hx; exact impl_Process_impl_sameProcess.link _ _ _ _ (by assumption); exact BS.go)
  | (apply Ok.bk #[.tmp 4] hC hP hx hF; exact BR.go; exact BF.go; exact BF.go; exact BF.go; exact BM.go; exact BR.go; exact BR.go; exact BR.go; exact B1.go; exact BR.go))
end Go.Proofs.Ytegeahiflkjhmaa.PFnExactSameProgram
