/- Functions' walks: each computes what its plain form says. No condition. -/
import Derived.Test.YtmbkcbgbienjoaaLkFnExactProgramOkh
import Derived.Test.YtmbkcbgbienjoaaLkFnExactProgramOkf
open Go Go.Proofs Go.Proofs.Ytmbkcbgbienjoaa.Abs
namespace Go.Proofs.Ytmbkcbgbienjoaa.PFnExactProgramOk
open Go.RowKit Go.Proofs.YtmbkcbgbienjoaaW.PrintWords Go.Proofs.YtmbkcbgbienjoaaW.PrintLast Go.Proofs.YtmbkcbgbienjoaaW.PrintMore
set_option linter.unusedVariables false
set_option linter.unusedSimpArgs false
set_option maxRecDepth 100000
attribute [local irreducible] evK evQ evM evF evW evH goE goK goKD goQ goQD goD Ok ACalls
attribute [local go_sem] inLine Option.map_some in
set_option maxHeartbeats 8000000 in
theorem impl_KeyWord.link (k : Nat) (a0 : ByteArray) (r : Bool) (H : impl_KeyWord.f k a0 = some r) : ACalls Try.prog 133 [.dat false [.sc (.string a0)]] [(false, [.sc (.bool r)])] [.dat false [.sc (.string a0)]] := by
 refine ACalls.enter Try.func133 (by kernel_rfl) rfl (by rw [Try.ntmps133]; exact Nat.le_of_ble_eq_true rfl) (fun C F hC hP hf hn hx => ?_)
 rw [Try.ntmps133] at hn
 have hF : Try.prog.funcs[C.fid]? = some Try.f133 := hf ▸ Try.func133
 replace hC := Hold.mk hC
 replace hx : C.fx = [] := hx
 simp only [entry, entE, enumM, rwA, rwC, Nat.reduceAdd] at ⊢
 simp only [impl_KeyWord.f, List.length_append, List.length_cons, List.length_nil, Nat.zero_add, beq_dec, bne_dec, Bool.or_eq_true, Bool.and_eq_true, Bool.not_eq_true', decide_eq_true_eq, decide_eq_false_iff_not, ite_or', ite_and', ite_not', ge_iff_le, gt_iff_lt] at H
 repeat' first
  | (with_reducible replace H := sBindA H (by assumption))
  | (with_reducible replace H := sBindS H)
  | (with_reducible replace H := sBind H); obtain ⟨t, hA, H⟩ := H
  | (with_reducible replace H := sBool H); obtain ⟨c, H⟩ | ⟨c, H⟩ := H
  | (with_reducible replace H := sEq H); obtain ⟨c, c', H⟩ | ⟨c, c', H⟩ := H
  | (with_reducible replace H := sEqL H); obtain ⟨c, H⟩ | ⟨c, H⟩ := H
  | (with_reducible replace H := sIte H); obtain ⟨c, H⟩ | ⟨c, H⟩ := H
  | (with_reducible replace H := sAnd H); obtain ⟨c, H⟩ | ⟨c, H⟩ := H
  | (with_reducible replace H := sOr H); obtain ⟨c, H⟩ | ⟨c, H⟩ := H
 all_goals first
  | cases H
  | replace H := Hold.mk H
 all_goals repeat (first
  | apply Ok.seq
  | apply Ok.skip
  | (apply Ok.rN [0, 2, 3] hP hn hx; exact BR.go; exact BV.go)
  | (apply Ok.gS)
  | (apply Ok.cn; exact BS.go)
  | apply Ok.block
  | apply Ok.inBlock
  | (apply Ok.ex; exact BR.go)
  | (apply goE.e [0, 2, 3] hP hn hx; exact BR.go; exact BV.go)
  | (apply goE.n hP hn hx; exact BR.go; exact BJ.go; exact BU.go)
  | (apply goE.q; exact BR.go; exact BG.go; exact BW.go)
  | (apply goQ.t hP; exact BR.go; exact BR.go; exact BS.go)
  | (apply goQ.f hn hx; exact BR.go; exact BR.go; exact BE.go)
  | (apply goK.k hP hn hx; exact slices_Contains_string_string.link _ _ _ _ (by assumption); exact BS.go)
  | (apply Ok.bk #[.tmp 2] hC.out hP hx hF; exact BR.go; exact BF.go; exact BF.go; exact BF.go; exact BM.go; exact BR.go; exact BR.go; exact BR.go; exact B1.go; exact BR.go))
set_option maxHeartbeats 8000000 in
theorem impl_run_impl_letter.link (k : Nat) (a0 : ByteArray) (a1 : Int) (r : Int) (H : impl_run_impl_letter.f k a0 a1 = some r) : ACalls Try.prog 131 [.dat false [.sc (.string a0)], .dat false [.sc (.int .i64 a1)], .clo 132 []] [(false, [.sc (.int .i64 r)])] [.dat false [.sc (.string a0)], .dat false [.sc (.int .i64 a1)], .clo 132 []] := by
 refine ACalls.enter Try.func131 (by kernel_rfl) rfl (by rw [Try.ntmps131]; exact Nat.le_of_ble_eq_true rfl) (fun C F hC hP hf hn hx => ?_)
 rw [Try.ntmps131] at hn
 have hF : Try.prog.funcs[C.fid]? = some Try.f131 := hf ▸ Try.func131
 replace hC := Hold.mk hC
 replace hx : C.fx = [2] := hx
 simp only [entry, entE, enumM, rwA, rwC, Nat.reduceAdd] at ⊢
 simp only [impl_run_impl_letter.f, List.length_append, List.length_cons, List.length_nil, Nat.zero_add, beq_dec, bne_dec, Bool.or_eq_true, Bool.and_eq_true, Bool.not_eq_true', decide_eq_true_eq, decide_eq_false_iff_not, ite_or', ite_and', ite_not', ge_iff_le, gt_iff_lt] at H
 repeat' first
  | (with_reducible replace H := sBindA H (by assumption))
  | (with_reducible replace H := sBindS H)
  | (with_reducible replace H := sBind H); obtain ⟨t, hA, H⟩ := H
  | (with_reducible replace H := sBool H); obtain ⟨c, H⟩ | ⟨c, H⟩ := H
  | (with_reducible replace H := sEq H); obtain ⟨c, c', H⟩ | ⟨c, c', H⟩ := H
  | (with_reducible replace H := sEqL H); obtain ⟨c, H⟩ | ⟨c, H⟩ := H
  | (with_reducible replace H := sIte H); obtain ⟨c, H⟩ | ⟨c, H⟩ := H
  | (with_reducible replace H := sAnd H); obtain ⟨c, H⟩ | ⟨c, H⟩ := H
  | (with_reducible replace H := sOr H); obtain ⟨c, H⟩ | ⟨c, H⟩ := H
 all_goals first
  | cases H
  | replace H := Hold.mk H
 all_goals repeat (first
  | apply Ok.seq
  | apply Ok.skip
  | (apply Ok.rN [0, 1, 2, 6, 17] hP hn hx; exact BR.go; exact BV.go)
  | (apply Ok.gS)
  | (apply Ok.cn; exact BS.go)
  | apply Ok.block
  | apply Ok.inBlock
  | (apply Ok.ex; exact BR.go)
  | (apply goE.e [0, 1, 2, 6, 17] hP hn hx; exact BR.go; exact BV.go)
  | (apply goE.n hP hn hx; exact BR.go; exact BJ.go; exact BU.go)
  | (apply goE.q; exact BR.go; exact BG.go; exact BW.go)
  | (apply goQ.t hP; exact BR.go; exact BR.go; exact BS.go)
  | (apply goQ.f hn hx; exact BR.go; exact BR.go; exact BE.go)
  | (apply goK.k hP hn hx; exact impl_letter.link _ _ (by assumption); exact BS.go)
  | (apply Ok.bk #[.tmp 6] hC.out hP hx hF; exact BR.go; exact BF.go; exact BF.go; exact BF.go; exact BM.go; exact BR.go; exact BR.go; exact BR.go; exact B1.go; exact BR.go)
  | (apply Ok.lq [0, 1, 2] (fun q X => ∃ x0, ∃ x1, X = ⟨[(0, .dat false [.sc (.string x0)]), (1, .dat false [.sc (.int .i64 x1)]), (2, .clo 132 [])], []⟩ ∧ q ≤ k ∧ impl_run_impl_letter.l0 q x0 x1 = some r); exact BT.go; exact ⟨_, _, _, by first | rfl | (simp (disch := omega) only [go_sem, ↓reduceIte, eq_self, and_self]; done), by omega, H.out⟩))
 all_goals intro q0_1 X hJ ih0
 all_goals clear H
 all_goals obtain ⟨x0, x1, rfl, hq, H⟩ := hJ
 all_goals (cases q0_1 with
  | zero => (simp only [impl_run_impl_letter.l0] at H; cases H)
  | succ kq0_1 =>
   simp only [impl_run_impl_letter.l0, List.length_append, List.length_cons, List.length_nil, Nat.zero_add, beq_dec, bne_dec, Bool.or_eq_true, Bool.and_eq_true, Bool.not_eq_true', decide_eq_true_eq, decide_eq_false_iff_not, ite_or', ite_and', ite_not', ge_iff_le, gt_iff_lt] at H
   repeat' first
    | (with_reducible replace H := sBindA H (by assumption))
    | (with_reducible replace H := sBindS H)
    | (with_reducible replace H := sBind H); obtain ⟨t, hA, H⟩ := H
    | (with_reducible replace H := sBool H); obtain ⟨c, H⟩ | ⟨c, H⟩ := H
    | (with_reducible replace H := sEq H); obtain ⟨c, c', H⟩ | ⟨c, c', H⟩ := H
    | (with_reducible replace H := sEqL H); obtain ⟨c, H⟩ | ⟨c, H⟩ := H
    | (with_reducible replace H := sIte H); obtain ⟨c, H⟩ | ⟨c, H⟩ := H
    | (with_reducible replace H := sAnd H); obtain ⟨c, H⟩ | ⟨c, H⟩ := H
    | (with_reducible replace H := sOr H); obtain ⟨c, H⟩ | ⟨c, H⟩ := H
   all_goals first
    | cases H
    | (exfalso; clear H; omega)
    | replace H := Hold.mk H
   all_goals repeat (first
    | apply Ok.seq
    | apply Ok.skip
    | (apply Ok.rN [0, 1, 2, 6, 17] hP hn hx; exact BR.go; exact BV.go)
    | (apply Ok.gS)
    | (apply Ok.cn; exact BS.go)
    | apply Ok.block
    | apply Ok.inBlock
    | (apply Ok.ex; exact BR.go)
    | (apply goE.e [0, 1, 2, 6, 17] hP hn hx; exact BR.go; exact BV.go)
    | (apply goE.n hP hn hx; exact BR.go; exact BJ.go; exact BU.go)
    | (apply goE.q; exact BR.go; exact BG.go; exact BW.go)
    | (apply goQ.t hP; exact BR.go; exact BR.go; exact BS.go)
    | (apply goQ.f hn hx; exact BR.go; exact BR.go; exact BE.go)
    | (apply goK.k hP hn hx; exact impl_letter.link _ _ (by assumption); exact BS.go)
    | (apply Ok.bk #[.tmp 6] hC.out hP hx hF; exact BR.go; exact BF.go; exact BF.go; exact BF.go; exact BM.go; exact BR.go; exact BR.go; exact BR.go; exact B1.go; exact BR.go)
    | (apply Ok.ag [0, 1, 2] ih0; exact BT.go; exact ⟨_, by omega, _, _, by first | rfl | (simp (disch := omega) only [go_sem, ↓reduceIte, eq_self, and_self]; done), by omega, H.out⟩; done)))
set_option maxHeartbeats 8000000 in
theorem impl_NameOk.link (k : Nat) (a0 : ByteArray) (r : Bool) (H : impl_NameOk.f k a0 = some r) : ACalls Try.prog 94 [.dat false [.sc (.string a0)]] [(false, [.sc (.bool r)])] [.dat false [.sc (.string a0)]] := by
 refine ACalls.enter Try.func94 (by kernel_rfl) rfl (by rw [Try.ntmps94]; exact Nat.le_of_ble_eq_true rfl) (fun C F hC hP hf hn hx => ?_)
 rw [Try.ntmps94] at hn
 have hF : Try.prog.funcs[C.fid]? = some Try.f94 := hf ▸ Try.func94
 replace hC := Hold.mk hC
 replace hx : C.fx = [] := hx
 simp only [entry, entE, enumM, rwA, rwC, Nat.reduceAdd] at ⊢
 simp only [impl_NameOk.f, List.length_append, List.length_cons, List.length_nil, Nat.zero_add, beq_dec, bne_dec, Bool.or_eq_true, Bool.and_eq_true, Bool.not_eq_true', decide_eq_true_eq, decide_eq_false_iff_not, ite_or', ite_and', ite_not', ge_iff_le, gt_iff_lt] at H
 repeat' first
  | (with_reducible replace H := sBindA H (by assumption))
  | (with_reducible replace H := sBindS H)
  | (with_reducible replace H := sBind H); obtain ⟨t, hA, H⟩ := H
  | (with_reducible replace H := sBool H); obtain ⟨c, H⟩ | ⟨c, H⟩ := H
  | (with_reducible replace H := sEq H); obtain ⟨c, c', H⟩ | ⟨c, c', H⟩ := H
  | (with_reducible replace H := sEqL H); obtain ⟨c, H⟩ | ⟨c, H⟩ := H
  | (with_reducible replace H := sIte H); obtain ⟨c, H⟩ | ⟨c, H⟩ := H
  | (with_reducible replace H := sAnd H); obtain ⟨c, H⟩ | ⟨c, H⟩ := H
  | (with_reducible replace H := sOr H); obtain ⟨c, H⟩ | ⟨c, H⟩ := H
 all_goals first
  | cases H
  | replace H := Hold.mk H
 all_goals repeat (first
  | apply Ok.seq
  | apply Ok.skip
  | (apply Ok.rN [0, 2] hP hn hx; exact BR.go; exact BV.go)
  | (apply Ok.gS)
  | (apply Ok.cn; exact BS.go)
  | apply Ok.block
  | apply Ok.inBlock
  | (apply Ok.ex; exact BR.go)
  | (apply goE.e [0, 2] hP hn hx; exact BR.go; exact BV.go)
  | (apply goE.n hP hn hx; exact BR.go; exact BJ.go; exact BU.go)
  | (apply goE.q; exact BR.go; exact BG.go; exact BW.go)
  | (apply goQ.t hP; exact BR.go; exact BR.go; exact BS.go)
  | (apply goQ.f hn hx; exact BR.go; exact BR.go; exact BE.go)
  | (apply goK.k hP hn hx; exact impl_within.link _ _ _ _ (by assumption); exact BS.go)
  | (apply goK.k hP hn hx; exact impl_KeyWord.link _ _ _ (by assumption); exact BS.go)
  | (apply goK.k hP hn hx; exact impl_run_impl_letter.link _ _ _ _ (by assumption); exact BS.go)
  | (apply Ok.bk #[.tmp 2] hC.out hP hx hF; exact BR.go; exact BF.go; exact BF.go; exact BF.go; exact BM.go; exact BR.go; exact BR.go; exact BR.go; exact B1.go; exact BR.go))
set_option maxHeartbeats 8000000 in
theorem impl_namesIn.link (k : Nat) (l0_0 : List (S77)) (l0_1 : List (S106)) (l0_2 : List (S103)) (r : List ByteArray) (H : impl_namesIn.f k l0_0 l0_1 l0_2 = some r) : ACalls Try.prog 92 [.dat true [.sl none 6 (List.flatMap e77 l0_0), .sl none 4 (List.flatMap e106 l0_1), .sl none 4 (List.flatMap e103 l0_2)]] [(false, [.sl (some 0) 1 (List.flatMap eS r)])] [.dat true [.sl none 6 (List.flatMap e77 l0_0), .sl none 4 (List.flatMap e106 l0_1), .sl none 4 (List.flatMap e103 l0_2)]] := by
 refine ACalls.enter Try.func92 (by kernel_rfl) rfl (by rw [Try.ntmps92]; exact Nat.le_of_ble_eq_true rfl) (fun C F hC hP hf hn hx => ?_)
 rw [Try.ntmps92] at hn
 have hF : Try.prog.funcs[C.fid]? = some Try.f92 := hf ▸ Try.func92
 replace hC := Hold.mk hC
 replace hx : C.fx = [] := hx
 simp only [entry, entE, enumM, rwA, rwC, Nat.reduceAdd] at ⊢
 simp only [impl_namesIn.f, List.length_append, List.length_cons, List.length_nil, Nat.zero_add, beq_dec, bne_dec, Bool.or_eq_true, Bool.and_eq_true, Bool.not_eq_true', decide_eq_true_eq, decide_eq_false_iff_not, ite_or', ite_and', ite_not', ge_iff_le, gt_iff_lt] at H
 repeat' first
  | (with_reducible replace H := sBindA H (by assumption))
  | (with_reducible replace H := sBindS H)
  | (with_reducible replace H := sBind H); obtain ⟨t, hA, H⟩ := H
  | (with_reducible replace H := sBool H); obtain ⟨c, H⟩ | ⟨c, H⟩ := H
  | (with_reducible replace H := sEq H); obtain ⟨c, c', H⟩ | ⟨c, c', H⟩ := H
  | (with_reducible replace H := sEqL H); obtain ⟨c, H⟩ | ⟨c, H⟩ := H
  | (with_reducible replace H := sIte H); obtain ⟨c, H⟩ | ⟨c, H⟩ := H
  | (with_reducible replace H := sAnd H); obtain ⟨c, H⟩ | ⟨c, H⟩ := H
  | (with_reducible replace H := sOr H); obtain ⟨c, H⟩ | ⟨c, H⟩ := H
 all_goals first
  | cases H
  | replace H := Hold.mk H
 all_goals (try simp only [List.length_append, List.length_cons, List.length_nil, Nat.zero_add] at *)
 all_goals repeat (first
  | apply Ok.seq
  | apply Ok.skip
  | (apply Ok.rN [0, 1, 2, 3, 5, 7, 9, 11, 12, 13, 14, 29, 30, 31, 32, 45, 46, 47, 48] hP hn hx; exact BR.go; exact BV.go)
  | (apply Ok.cn; exact BS.go)
  | apply Ok.block
  | apply Ok.inBlock
  | (apply Ok.ex; exact BR.go)
  | (apply Ok.gD 5 (noneL [0, 1, 2, 5, 6, 8, 9] ++ ((3, some [9, 8, 6, 5, 0]) :: ((4, some [9, 8, 6, 5]) :: ((7, some [9, 8]) :: ((10, some []) :: ((11, some []) :: ([]))))))) hP mo; exact BK.go)
  | (apply Ok.gD 15 (noneL [0, 1, 2, 5, 6, 8, 9] ++ ((3, some [9, 8, 6, 5, 0]) :: ((4, some [9, 8, 6, 5]) :: ((7, some [9, 8]) :: ((10, some []) :: ((11, some []) :: ([]))))))) hP mo; exact BK.go)
  | (apply Ok.rD [0, 1, 2, 3, 5, 7, 9, 11, 12, 13, 14, 29, 30, 31, 32, 45, 46, 47, 48] hP hn hx mo; exact BK.go; exact BX.go)
  | (apply goE.e [0, 1, 2, 3, 5, 7, 9, 11, 12, 13, 14, 29, 30, 31, 32, 45, 46, 47, 48] hP hn hx; exact BR.go; exact BV.go)
  | (apply goE.n hP hn hx; exact BR.go; exact BJ.go; exact BU.go)
  | (apply goE.q; exact BR.go; exact BG.go; exact BW.go)
  | (apply goQ.t hP; exact BR.go; exact BR.go; exact BS.go)
  | (apply goQ.f hn hx; exact BR.go; exact BR.go; exact BE.go)
  | (apply goD.z [0, 1, 2, 3, 5, 7, 9, 11, 12, 13, 14, 29, 30, 31, 32, 45, 46, 47, 48]; exact BT.go)
  | (apply goD.n hP hn hx; exact BN.go)
  | (apply goD.q; exact BR.go; exact BG.go; exact BW.go)
  | (apply goQD.t hP; exact BR.go; exact BR.go; exact BS.go)
  | (apply goQD.f hP hn hx; exact BR.go; exact BR.go; exact BE.go; exact BQ.go)
  | (apply goD.x hP hn hx; exact BR.go; exact BG.go; exact BR.go; exact BW.go; exact BS.go; exact BQ.go)
  | (apply Ok.bk #[.tmp 2] hC.out hP hx hF; exact BR.go; exact BF.go; exact BF.go; exact BF.go; exact BM.go; exact BR.go; exact BR.go; exact BR.go; exact B1.go; exact BR.go)
  | (apply Ok.lq [1, 3, 11, 12, 13] (fun q X => ∃ x3, ∃ x11, ∃ x12, ∃ x13, ∃ x511000, ∃ x511001, ∃ x511002, X = ⟨[(1, .pl 0 none 0), (3, .bor 1 none 0 1 false), (11, .dat false [.sl none 4 (List.flatMap e106 x11)]), (12, .dat false [.sc (.int .i64 x12)]), (13, .dat false [.sc (.int .i64 x13)])], [(0, .mem [.sl none 6 (List.flatMap e77 x511000), .sl none 4 (List.flatMap e106 x511001), .sl none 4 (List.flatMap e103 x511002)]), (1, .vir [.sl (some 0) 1 (List.flatMap eS x3)])]⟩ ∧ q ≤ k ∧ impl_namesIn.l0 q x3 x11 x12 x13 x511000 x511001 x511002 = some r); exact BT.go; exact ⟨_, _, _, _, _, _, _, _, by first | rfl | (simp (disch := omega) only [go_sem, ↓reduceIte, eq_self, and_self]; done), by omega, H.out⟩))
 all_goals intro q0_1 X hJ ih0
 all_goals clear H
 all_goals obtain ⟨x3, x11, x12, x13, x511000, x511001, x511002, rfl, hq, H⟩ := hJ
 all_goals (cases q0_1 with
  | zero => (simp only [impl_namesIn.l0] at H; cases H)
  | succ kq0_1 =>
   simp only [impl_namesIn.l0, List.length_append, List.length_cons, List.length_nil, Nat.zero_add, beq_dec, bne_dec, Bool.or_eq_true, Bool.and_eq_true, Bool.not_eq_true', decide_eq_true_eq, decide_eq_false_iff_not, ite_or', ite_and', ite_not', ge_iff_le, gt_iff_lt] at H
   repeat' first
    | (with_reducible replace H := sBindA H (by assumption))
    | (with_reducible replace H := sBindS H)
    | (with_reducible replace H := sBind H); obtain ⟨t, hA, H⟩ := H
    | (with_reducible replace H := sBool H); obtain ⟨c, H⟩ | ⟨c, H⟩ := H
    | (with_reducible replace H := sEq H); obtain ⟨c, c', H⟩ | ⟨c, c', H⟩ := H
    | (with_reducible replace H := sEqL H); obtain ⟨c, H⟩ | ⟨c, H⟩ := H
    | (with_reducible replace H := sIte H); obtain ⟨c, H⟩ | ⟨c, H⟩ := H
    | (with_reducible replace H := sAnd H); obtain ⟨c, H⟩ | ⟨c, H⟩ := H
    | (with_reducible replace H := sOr H); obtain ⟨c, H⟩ | ⟨c, H⟩ := H
   all_goals first
    | cases H
    | (exfalso; clear H; omega)
    | replace H := Hold.mk H
   all_goals (try simp only [List.length_append, List.length_cons, List.length_nil, Nat.zero_add] at *)
   all_goals repeat (first
    | apply Ok.seq
    | apply Ok.skip
    | (apply Ok.rN [0, 1, 2, 3, 5, 7, 9, 11, 12, 13, 14, 29, 30, 31, 32, 45, 46, 47, 48] hP hn hx; exact BR.go; exact BV.go)
    | (apply Ok.cn; exact BS.go)
    | apply Ok.block
    | apply Ok.inBlock
    | (apply Ok.ex; exact BR.go)
    | (apply Ok.gD 5 (noneL [0, 1, 2, 5, 6, 8, 9] ++ ((3, some [9, 8, 6, 5, 0]) :: ((4, some [9, 8, 6, 5]) :: ((7, some [9, 8]) :: ((10, some []) :: ((11, some []) :: ([]))))))) hP mo; exact BK.go)
    | (apply Ok.gD 15 (noneL [0, 1, 2, 5, 6, 8, 9] ++ ((3, some [9, 8, 6, 5, 0]) :: ((4, some [9, 8, 6, 5]) :: ((7, some [9, 8]) :: ((10, some []) :: ((11, some []) :: ([]))))))) hP mo; exact BK.go)
    | (apply Ok.rD [0, 1, 2, 3, 5, 7, 9, 11, 12, 13, 14, 29, 30, 31, 32, 45, 46, 47, 48] hP hn hx mo; exact BK.go; exact BX.go)
    | (apply goE.e [0, 1, 2, 3, 5, 7, 9, 11, 12, 13, 14, 29, 30, 31, 32, 45, 46, 47, 48] hP hn hx; exact BR.go; exact BV.go)
    | (apply goE.n hP hn hx; exact BR.go; exact BJ.go; exact BU.go)
    | (apply goE.q; exact BR.go; exact BG.go; exact BW.go)
    | (apply goQ.t hP; exact BR.go; exact BR.go; exact BS.go)
    | (apply goQ.f hn hx; exact BR.go; exact BR.go; exact BE.go)
    | (apply goD.z [0, 1, 2, 3, 5, 7, 9, 11, 12, 13, 14, 29, 30, 31, 32, 45, 46, 47, 48]; exact BT.go)
    | (apply goD.n hP hn hx; exact BN.go)
    | (apply goD.q; exact BR.go; exact BG.go; exact BW.go)
    | (apply goQD.t hP; exact BR.go; exact BR.go; exact BS.go)
    | (apply goQD.f hP hn hx; exact BR.go; exact BR.go; exact BE.go; exact BQ.go)
    | (apply goD.x hP hn hx; exact BR.go; exact BG.go; exact BR.go; exact BW.go; exact BS.go; exact BQ.go)
    | (apply Ok.bk #[.tmp 2] hC.out hP hx hF; exact BR.go; exact BF.go; exact BF.go; exact BF.go; exact BM.go; exact BR.go; exact BR.go; exact BR.go; exact B1.go; exact BR.go)
    | (apply Ok.ag [1, 3, 11, 12, 13] ih0; exact BT.go; exact ⟨_, by omega, _, _, _, _, _, _, _, by first | rfl | (simp (disch := omega) only [go_sem, ↓reduceIte, eq_self, and_self]; done), by omega, H.out⟩; done)
    | (apply Ok.lq [1, 3, 11, 12, 13, 29, 30, 31] (fun q X => ∃ x3, ∃ x11, ∃ x12, ∃ x13, ∃ x29, ∃ x30, ∃ x31, ∃ x511000, ∃ x511001, ∃ x511002, X = ⟨[(1, .pl 0 none 0), (3, .bor 1 none 0 1 false), (11, .dat false [.sl none 4 (List.flatMap e106 x11)]), (12, .dat false [.sc (.int .i64 x12)]), (13, .dat false [.sc (.int .i64 x13)]), (29, .dat false [.sl none 3 (List.flatMap e131 x29)]), (30, .dat false [.sc (.int .i64 x30)]), (31, .dat false [.sc (.int .i64 x31)])], [(0, .mem [.sl none 6 (List.flatMap e77 x511000), .sl none 4 (List.flatMap e106 x511001), .sl none 4 (List.flatMap e103 x511002)]), (1, .vir [.sl (some 0) 1 (List.flatMap eS x3)])]⟩ ∧ q ≤ kq0_1 ∧ impl_namesIn.l1 q x3 x11 x12 x13 x29 x30 x31 x511000 x511001 x511002 = some r); exact BT.go; exact ⟨_, _, _, _, _, _, _, _, _, _, _, by first | rfl | (simp (disch := omega) only [go_sem, ↓reduceIte, eq_self, and_self]; done), by omega, H.out⟩)
    | (apply Ok.lq [3, 45, 46, 47] (fun q X => ∃ x3, ∃ x45, ∃ x46, ∃ x47, X = ⟨[(3, .bor 0 none 0 1 false), (45, .dat false [.sl none 4 (List.flatMap e103 x45)]), (46, .dat false [.sc (.int .i64 x46)]), (47, .dat false [.sc (.int .i64 x47)])], [(0, .vir [.sl (some 0) 1 (List.flatMap eS x3)])]⟩ ∧ q ≤ kq0_1 ∧ impl_namesIn.l2 q x3 x45 x46 x47 = some r); exact BT.go; exact ⟨_, _, _, _, _, by first | rfl | (simp (disch := omega) only [go_sem, ↓reduceIte, eq_self, and_self]; done), by omega, H.out⟩))
   any_goals (
     intro q1_2 X hJ ih1
     clear H
     obtain ⟨x3, x11, x12, x13, x29, x30, x31, x511000, x511001, x511002, rfl, hq, H⟩ := hJ
     (cases q1_2 with
      | zero => (simp only [impl_namesIn.l1] at H; cases H)
      | succ kq1_2 =>
       simp only [impl_namesIn.l1, List.length_append, List.length_cons, List.length_nil, Nat.zero_add, beq_dec, bne_dec, Bool.or_eq_true, Bool.and_eq_true, Bool.not_eq_true', decide_eq_true_eq, decide_eq_false_iff_not, ite_or', ite_and', ite_not', ge_iff_le, gt_iff_lt] at H
       repeat' first
        | (with_reducible replace H := sBindA H (by assumption))
        | (with_reducible replace H := sBindS H)
        | (with_reducible replace H := sBind H); obtain ⟨t, hA, H⟩ := H
        | (with_reducible replace H := sBool H); obtain ⟨c, H⟩ | ⟨c, H⟩ := H
        | (with_reducible replace H := sEq H); obtain ⟨c, c', H⟩ | ⟨c, c', H⟩ := H
        | (with_reducible replace H := sEqL H); obtain ⟨c, H⟩ | ⟨c, H⟩ := H
        | (with_reducible replace H := sIte H); obtain ⟨c, H⟩ | ⟨c, H⟩ := H
        | (with_reducible replace H := sAnd H); obtain ⟨c, H⟩ | ⟨c, H⟩ := H
        | (with_reducible replace H := sOr H); obtain ⟨c, H⟩ | ⟨c, H⟩ := H
       all_goals first
        | cases H
        | (exfalso; clear H; omega)
        | replace H := Hold.mk H
       all_goals (try simp only [List.length_append, List.length_cons, List.length_nil, Nat.zero_add] at *)
       all_goals repeat (first
        | apply Ok.seq
        | apply Ok.skip
        | (apply Ok.rN [0, 1, 2, 3, 5, 7, 9, 11, 12, 13, 14, 29, 30, 31, 32, 45, 46, 47, 48] hP hn hx; exact BR.go; exact BV.go)
        | (apply Ok.cn; exact BS.go)
        | apply Ok.block
        | apply Ok.inBlock
        | (apply Ok.ex; exact BR.go)
        | (apply Ok.gD 5 (noneL [0, 1, 2, 5, 6, 8, 9] ++ ((3, some [9, 8, 6, 5, 0]) :: ((4, some [9, 8, 6, 5]) :: ((7, some [9, 8]) :: ((10, some []) :: ((11, some []) :: ([]))))))) hP mo; exact BK.go)
        | (apply Ok.gD 15 (noneL [0, 1, 2, 5, 6, 8, 9] ++ ((3, some [9, 8, 6, 5, 0]) :: ((4, some [9, 8, 6, 5]) :: ((7, some [9, 8]) :: ((10, some []) :: ((11, some []) :: ([]))))))) hP mo; exact BK.go)
        | (apply Ok.rD [0, 1, 2, 3, 5, 7, 9, 11, 12, 13, 14, 29, 30, 31, 32, 45, 46, 47, 48] hP hn hx mo; exact BK.go; exact BX.go)
        | (apply goE.e [0, 1, 2, 3, 5, 7, 9, 11, 12, 13, 14, 29, 30, 31, 32, 45, 46, 47, 48] hP hn hx; exact BR.go; exact BV.go)
        | (apply goE.n hP hn hx; exact BR.go; exact BJ.go; exact BU.go)
        | (apply goE.q; exact BR.go; exact BG.go; exact BW.go)
        | (apply goQ.t hP; exact BR.go; exact BR.go; exact BS.go)
        | (apply goQ.f hn hx; exact BR.go; exact BR.go; exact BE.go)
        | (apply goD.z [0, 1, 2, 3, 5, 7, 9, 11, 12, 13, 14, 29, 30, 31, 32, 45, 46, 47, 48]; exact BT.go)
        | (apply goD.n hP hn hx; exact BN.go)
        | (apply goD.q; exact BR.go; exact BG.go; exact BW.go)
        | (apply goQD.t hP; exact BR.go; exact BR.go; exact BS.go)
        | (apply goQD.f hP hn hx; exact BR.go; exact BR.go; exact BE.go; exact BQ.go)
        | (apply goD.x hP hn hx; exact BR.go; exact BG.go; exact BR.go; exact BW.go; exact BS.go; exact BQ.go)
        | (apply Ok.bk #[.tmp 2] hC.out hP hx hF; exact BR.go; exact BF.go; exact BF.go; exact BF.go; exact BM.go; exact BR.go; exact BR.go; exact BR.go; exact B1.go; exact BR.go)
        | (apply Ok.ag [1, 3, 11, 12, 13] ih0; exact BT.go; exact ⟨_, by omega, _, _, _, _, _, _, _, by first | rfl | (simp (disch := omega) only [go_sem, ↓reduceIte, eq_self, and_self]; done), by omega, H.out⟩; done)
        | (apply Ok.ag [1, 3, 11, 12, 13, 29, 30, 31] ih1; exact BT.go; exact ⟨_, by omega, _, _, _, _, _, _, _, _, _, _, by first | rfl | (simp (disch := omega) only [go_sem, ↓reduceIte, eq_self, and_self]; done), by omega, H.out⟩; done))))
   any_goals (
     intro q2_3 X hJ ih2
     clear H
     obtain ⟨x3, x45, x46, x47, rfl, hq, H⟩ := hJ
     (cases q2_3 with
      | zero => (simp only [impl_namesIn.l2] at H; cases H)
      | succ kq2_3 =>
       simp only [impl_namesIn.l2, List.length_append, List.length_cons, List.length_nil, Nat.zero_add, beq_dec, bne_dec, Bool.or_eq_true, Bool.and_eq_true, Bool.not_eq_true', decide_eq_true_eq, decide_eq_false_iff_not, ite_or', ite_and', ite_not', ge_iff_le, gt_iff_lt] at H
       repeat' first
        | (with_reducible replace H := sBindA H (by assumption))
        | (with_reducible replace H := sBindS H)
        | (with_reducible replace H := sBind H); obtain ⟨t, hA, H⟩ := H
        | (with_reducible replace H := sBool H); obtain ⟨c, H⟩ | ⟨c, H⟩ := H
        | (with_reducible replace H := sEq H); obtain ⟨c, c', H⟩ | ⟨c, c', H⟩ := H
        | (with_reducible replace H := sEqL H); obtain ⟨c, H⟩ | ⟨c, H⟩ := H
        | (with_reducible replace H := sIte H); obtain ⟨c, H⟩ | ⟨c, H⟩ := H
        | (with_reducible replace H := sAnd H); obtain ⟨c, H⟩ | ⟨c, H⟩ := H
        | (with_reducible replace H := sOr H); obtain ⟨c, H⟩ | ⟨c, H⟩ := H
       all_goals first
        | cases H
        | (exfalso; clear H; omega)
        | replace H := Hold.mk H
       all_goals (try simp only [List.length_append, List.length_cons, List.length_nil, Nat.zero_add] at *)
       all_goals repeat (first
        | apply Ok.seq
        | apply Ok.skip
        | (apply Ok.rN [0, 1, 2, 3, 5, 7, 9, 11, 12, 13, 14, 29, 30, 31, 32, 45, 46, 47, 48] hP hn hx; exact BR.go; exact BV.go)
        | (apply Ok.cn; exact BS.go)
        | apply Ok.block
        | apply Ok.inBlock
        | (apply Ok.ex; exact BR.go)
        | (apply Ok.gD 5 (noneL [0, 1, 2, 5, 6, 8, 9] ++ ((3, some [9, 8, 6, 5, 0]) :: ((4, some [9, 8, 6, 5]) :: ((7, some [9, 8]) :: ((10, some []) :: ((11, some []) :: ([]))))))) hP mo; exact BK.go)
        | (apply Ok.gD 15 (noneL [0, 1, 2, 5, 6, 8, 9] ++ ((3, some [9, 8, 6, 5, 0]) :: ((4, some [9, 8, 6, 5]) :: ((7, some [9, 8]) :: ((10, some []) :: ((11, some []) :: ([]))))))) hP mo; exact BK.go)
        | (apply Ok.rD [0, 1, 2, 3, 5, 7, 9, 11, 12, 13, 14, 29, 30, 31, 32, 45, 46, 47, 48] hP hn hx mo; exact BK.go; exact BX.go)
        | (apply goE.e [0, 1, 2, 3, 5, 7, 9, 11, 12, 13, 14, 29, 30, 31, 32, 45, 46, 47, 48] hP hn hx; exact BR.go; exact BV.go)
        | (apply goE.n hP hn hx; exact BR.go; exact BJ.go; exact BU.go)
        | (apply goE.q; exact BR.go; exact BG.go; exact BW.go)
        | (apply goQ.t hP; exact BR.go; exact BR.go; exact BS.go)
        | (apply goQ.f hn hx; exact BR.go; exact BR.go; exact BE.go)
        | (apply goD.z [0, 1, 2, 3, 5, 7, 9, 11, 12, 13, 14, 29, 30, 31, 32, 45, 46, 47, 48]; exact BT.go)
        | (apply goD.n hP hn hx; exact BN.go)
        | (apply goD.q; exact BR.go; exact BG.go; exact BW.go)
        | (apply goQD.t hP; exact BR.go; exact BR.go; exact BS.go)
        | (apply goQD.f hP hn hx; exact BR.go; exact BR.go; exact BE.go; exact BQ.go)
        | (apply goD.x hP hn hx; exact BR.go; exact BG.go; exact BR.go; exact BW.go; exact BS.go; exact BQ.go)
        | (apply Ok.bk #[.tmp 2] hC.out hP hx hF; exact BR.go; exact BF.go; exact BF.go; exact BF.go; exact BM.go; exact BR.go; exact BR.go; exact BR.go; exact B1.go; exact BR.go)
        | (apply Ok.ag [1, 3, 11, 12, 13] ih0; exact BT.go; exact ⟨_, by omega, _, _, _, _, _, _, _, by first | rfl | (simp (disch := omega) only [go_sem, ↓reduceIte, eq_self, and_self]; done), by omega, H.out⟩; done)
        | (apply Ok.ag [3, 45, 46, 47] ih2; exact BT.go; exact ⟨_, by omega, _, _, _, _, by first | rfl | (simp (disch := omega) only [go_sem, ↓reduceIte, eq_self, and_self]; done), by omega, H.out⟩; done)))))
set_option maxHeartbeats 8000000 in
theorem impl_ProgramOk_1.link (k : Nat) (a0 : ByteArray) (r : Bool) (H : impl_ProgramOk_1.f k a0 = some r) : ACalls Try.prog 93 [.dat false [.sc (.string a0)]] [(false, [.sc (.bool r)])] [.dat false [.sc (.string a0)]] := by
 refine ACalls.enter Try.func93 (by kernel_rfl) rfl (by rw [Try.ntmps93]; exact Nat.le_of_ble_eq_true rfl) (fun C F hC hP hf hn hx => ?_)
 rw [Try.ntmps93] at hn
 have hF : Try.prog.funcs[C.fid]? = some Try.f93 := hf ▸ Try.func93
 replace hC := Hold.mk hC
 replace hx : C.fx = [] := hx
 simp only [entry, entE, enumM, rwA, rwC, Nat.reduceAdd] at ⊢
 simp only [impl_ProgramOk_1.f, List.length_append, List.length_cons, List.length_nil, Nat.zero_add, beq_dec, bne_dec, Bool.or_eq_true, Bool.and_eq_true, Bool.not_eq_true', decide_eq_true_eq, decide_eq_false_iff_not, ite_or', ite_and', ite_not', ge_iff_le, gt_iff_lt] at H
 repeat' first
  | (with_reducible replace H := sBindA H (by assumption))
  | (with_reducible replace H := sBindS H)
  | (with_reducible replace H := sBind H); obtain ⟨t, hA, H⟩ := H
  | (with_reducible replace H := sBool H); obtain ⟨c, H⟩ | ⟨c, H⟩ := H
  | (with_reducible replace H := sEq H); obtain ⟨c, c', H⟩ | ⟨c, c', H⟩ := H
  | (with_reducible replace H := sEqL H); obtain ⟨c, H⟩ | ⟨c, H⟩ := H
  | (with_reducible replace H := sIte H); obtain ⟨c, H⟩ | ⟨c, H⟩ := H
  | (with_reducible replace H := sAnd H); obtain ⟨c, H⟩ | ⟨c, H⟩ := H
  | (with_reducible replace H := sOr H); obtain ⟨c, H⟩ | ⟨c, H⟩ := H
 all_goals first
  | cases H
  | replace H := Hold.mk H
 all_goals repeat (first
  | apply Ok.seq
  | apply Ok.skip
  | (apply Ok.rN [0, 2] hP hn hx; exact BR.go; exact BV.go)
  | (apply Ok.gS)
  | (apply Ok.cn; exact BS.go)
  | apply Ok.block
  | apply Ok.inBlock
  | (apply Ok.ex; exact BR.go)
  | (apply goE.e [0, 2] hP hn hx; exact BR.go; exact BV.go)
  | (apply goE.n hP hn hx; exact BR.go; exact BJ.go; exact BU.go)
  | (apply goE.q; exact BR.go; exact BG.go; exact BW.go)
  | (apply goQ.t hP; exact BR.go; exact BR.go; exact BS.go)
  | (apply goQ.f hn hx; exact BR.go; exact BR.go; exact BE.go)
  | (apply goK.k hP hn hx; exact impl_NameOk.link _ _ _ (by assumption); exact BS.go)
  | (apply Ok.bk #[.tmp 2] hC.out hP hx hF; exact BR.go; exact BF.go; exact BF.go; exact BF.go; exact BM.go; exact BR.go; exact BR.go; exact BR.go; exact B1.go; exact BR.go))
set_option maxHeartbeats 8000000 in
theorem slices_IndexFunc_string_string_impl_ProgramOk_1.link (k : Nat) (l0 : List ByteArray) (r : Int) (H : slices_IndexFunc_string_string_impl_ProgramOk_1.f k l0 = some r) : ACalls Try.prog 130 [.dat false [.sl none 1 (List.flatMap eS l0)], .clo 93 []] [(false, [.sc (.int .i64 r)])] [.dat false [.sl none 1 (List.flatMap eS l0)], .clo 93 []] := by
 refine ACalls.enter Try.func130 (by kernel_rfl) rfl (by rw [Try.ntmps130]; exact Nat.le_of_ble_eq_true rfl) (fun C F hC hP hf hn hx => ?_)
 rw [Try.ntmps130] at hn
 have hF : Try.prog.funcs[C.fid]? = some Try.f130 := hf ▸ Try.func130
 replace hC := Hold.mk hC
 replace hx : C.fx = [1] := hx
 simp only [entry, entE, enumM, rwA, rwC, Nat.reduceAdd] at ⊢
 simp only [slices_IndexFunc_string_string_impl_ProgramOk_1.f, List.length_append, List.length_cons, List.length_nil, Nat.zero_add, beq_dec, bne_dec, Bool.or_eq_true, Bool.and_eq_true, Bool.not_eq_true', decide_eq_true_eq, decide_eq_false_iff_not, ite_or', ite_and', ite_not', ge_iff_le, gt_iff_lt] at H
 repeat' first
  | (with_reducible replace H := sBindA H (by assumption))
  | (with_reducible replace H := sBindS H)
  | (with_reducible replace H := sBind H); obtain ⟨t, hA, H⟩ := H
  | (with_reducible replace H := sBool H); obtain ⟨c, H⟩ | ⟨c, H⟩ := H
  | (with_reducible replace H := sEq H); obtain ⟨c, c', H⟩ | ⟨c, c', H⟩ := H
  | (with_reducible replace H := sEqL H); obtain ⟨c, H⟩ | ⟨c, H⟩ := H
  | (with_reducible replace H := sIte H); obtain ⟨c, H⟩ | ⟨c, H⟩ := H
  | (with_reducible replace H := sAnd H); obtain ⟨c, H⟩ | ⟨c, H⟩ := H
  | (with_reducible replace H := sOr H); obtain ⟨c, H⟩ | ⟨c, H⟩ := H
 all_goals first
  | cases H
  | replace H := Hold.mk H
 all_goals repeat (first
  | apply Ok.seq
  | apply Ok.skip
  | (apply Ok.rN [0, 1, 4, 5, 7, 8, 9, 16] hP hn hx; exact BR.go; exact BV.go)
  | (apply Ok.gS)
  | (apply Ok.cn; exact BS.go)
  | apply Ok.block
  | apply Ok.inBlock
  | (apply Ok.ex; exact BR.go)
  | (apply goE.e [0, 1, 4, 5, 7, 8, 9, 16] hP hn hx; exact BR.go; exact BV.go)
  | (apply goE.n hP hn hx; exact BR.go; exact BJ.go; exact BU.go)
  | (apply goE.q; exact BR.go; exact BG.go; exact BW.go)
  | (apply goQ.t hP; exact BR.go; exact BR.go; exact BS.go)
  | (apply goQ.f hn hx; exact BR.go; exact BR.go; exact BE.go)
  | (apply goK.k hP hn hx; exact impl_ProgramOk_1.link _ _ _ (by assumption); exact BS.go)
  | (apply Ok.bk #[.tmp 4] hC.out hP hx hF; exact BR.go; exact BF.go; exact BF.go; exact BF.go; exact BM.go; exact BR.go; exact BR.go; exact BR.go; exact B1.go; exact BR.go)
  | (apply Ok.lq [0, 1, 7, 8] (fun q X => ∃ x0, ∃ x7, ∃ x8, X = ⟨[(0, .dat false [.sl none 1 (List.flatMap eS x0)]), (1, .clo 93 []), (7, .dat false [.sc (.int .i64 x7)]), (8, .dat false [.sc (.int .i64 x8)])], []⟩ ∧ q ≤ k ∧ slices_IndexFunc_string_string_impl_ProgramOk_1.l0 q x0 x7 x8 = some r); exact BT.go; exact ⟨_, _, _, _, by first | rfl | (simp (disch := omega) only [go_sem, ↓reduceIte, eq_self, and_self]; done), by omega, H.out⟩))
 all_goals intro q0_1 X hJ ih0
 all_goals clear H
 all_goals obtain ⟨x0, x7, x8, rfl, hq, H⟩ := hJ
 all_goals (cases q0_1 with
  | zero => (simp only [slices_IndexFunc_string_string_impl_ProgramOk_1.l0] at H; cases H)
  | succ kq0_1 =>
   simp only [slices_IndexFunc_string_string_impl_ProgramOk_1.l0, List.length_append, List.length_cons, List.length_nil, Nat.zero_add, beq_dec, bne_dec, Bool.or_eq_true, Bool.and_eq_true, Bool.not_eq_true', decide_eq_true_eq, decide_eq_false_iff_not, ite_or', ite_and', ite_not', ge_iff_le, gt_iff_lt] at H
   repeat' first
    | (with_reducible replace H := sBindA H (by assumption))
    | (with_reducible replace H := sBindS H)
    | (with_reducible replace H := sBind H); obtain ⟨t, hA, H⟩ := H
    | (with_reducible replace H := sBool H); obtain ⟨c, H⟩ | ⟨c, H⟩ := H
    | (with_reducible replace H := sEq H); obtain ⟨c, c', H⟩ | ⟨c, c', H⟩ := H
    | (with_reducible replace H := sEqL H); obtain ⟨c, H⟩ | ⟨c, H⟩ := H
    | (with_reducible replace H := sIte H); obtain ⟨c, H⟩ | ⟨c, H⟩ := H
    | (with_reducible replace H := sAnd H); obtain ⟨c, H⟩ | ⟨c, H⟩ := H
    | (with_reducible replace H := sOr H); obtain ⟨c, H⟩ | ⟨c, H⟩ := H
   all_goals first
    | cases H
    | (exfalso; clear H; omega)
    | replace H := Hold.mk H
   all_goals repeat (first
    | apply Ok.seq
    | apply Ok.skip
    | (apply Ok.rN [0, 1, 4, 5, 7, 8, 9, 16] hP hn hx; exact BR.go; exact BV.go)
    | (apply Ok.gS)
    | (apply Ok.cn; exact BS.go)
    | apply Ok.block
    | apply Ok.inBlock
    | (apply Ok.ex; exact BR.go)
    | (apply goE.e [0, 1, 4, 5, 7, 8, 9, 16] hP hn hx; exact BR.go; exact BV.go)
    | (apply goE.n hP hn hx; exact BR.go; exact BJ.go; exact BU.go)
    | (apply goE.q; exact BR.go; exact BG.go; exact BW.go)
    | (apply goQ.t hP; exact BR.go; exact BR.go; exact BS.go)
    | (apply goQ.f hn hx; exact BR.go; exact BR.go; exact BE.go)
    | (apply goK.k hP hn hx; exact impl_ProgramOk_1.link _ _ _ (by assumption); exact BS.go)
    | (apply Ok.bk #[.tmp 4] hC.out hP hx hF; exact BR.go; exact BF.go; exact BF.go; exact BF.go; exact BM.go; exact BR.go; exact BR.go; exact BR.go; exact B1.go; exact BR.go)
    | (apply Ok.ag [0, 1, 7, 8] ih0; exact BT.go; exact ⟨_, by omega, _, _, _, by first | rfl | (simp (disch := omega) only [go_sem, ↓reduceIte, eq_self, and_self]; done), by omega, H.out⟩; done)))
set_option maxHeartbeats 8000000 in
theorem slices_ContainsFunc_string_string_impl_ProgramOk_1.link (k : Nat) (l0 : List ByteArray) (r : Bool) (H : slices_ContainsFunc_string_string_impl_ProgramOk_1.f k l0 = some r) : ACalls Try.prog 91 [.dat false [.sl none 1 (List.flatMap eS l0)], .clo 93 []] [(false, [.sc (.bool r)])] [.dat false [.sl none 1 (List.flatMap eS l0)], .clo 93 []] := by
 refine ACalls.enter Try.func91 (by kernel_rfl) rfl (by rw [Try.ntmps91]; exact Nat.le_of_ble_eq_true rfl) (fun C F hC hP hf hn hx => ?_)
 rw [Try.ntmps91] at hn
 have hF : Try.prog.funcs[C.fid]? = some Try.f91 := hf ▸ Try.func91
 replace hC := Hold.mk hC
 replace hx : C.fx = [1] := hx
 simp only [entry, entE, enumM, rwA, rwC, Nat.reduceAdd] at ⊢
 simp only [slices_ContainsFunc_string_string_impl_ProgramOk_1.f, List.length_append, List.length_cons, List.length_nil, Nat.zero_add, beq_dec, bne_dec, Bool.or_eq_true, Bool.and_eq_true, Bool.not_eq_true', decide_eq_true_eq, decide_eq_false_iff_not, ite_or', ite_and', ite_not', ge_iff_le, gt_iff_lt] at H
 repeat' first
  | (with_reducible replace H := sBindA H (by assumption))
  | (with_reducible replace H := sBindS H)
  | (with_reducible replace H := sBind H); obtain ⟨t, hA, H⟩ := H
  | (with_reducible replace H := sBool H); obtain ⟨c, H⟩ | ⟨c, H⟩ := H
  | (with_reducible replace H := sEq H); obtain ⟨c, c', H⟩ | ⟨c, c', H⟩ := H
  | (with_reducible replace H := sEqL H); obtain ⟨c, H⟩ | ⟨c, H⟩ := H
  | (with_reducible replace H := sIte H); obtain ⟨c, H⟩ | ⟨c, H⟩ := H
  | (with_reducible replace H := sAnd H); obtain ⟨c, H⟩ | ⟨c, H⟩ := H
  | (with_reducible replace H := sOr H); obtain ⟨c, H⟩ | ⟨c, H⟩ := H
 all_goals first
  | cases H
  | replace H := Hold.mk H
 all_goals repeat (first
  | apply Ok.seq
  | apply Ok.skip
  | (apply Ok.rN [0, 1, 4] hP hn hx; exact BR.go; exact BV.go)
  | (apply Ok.gS)
  | (apply Ok.cn; exact BS.go)
  | apply Ok.block
  | apply Ok.inBlock
  | (apply Ok.ex; exact BR.go)
  | (apply goE.e [0, 1, 4] hP hn hx; exact BR.go; exact BV.go)
  | (apply goE.n hP hn hx; exact BR.go; exact BJ.go; exact BU.go)
  | (apply goE.q; exact BR.go; exact BG.go; exact BW.go)
  | (apply goQ.t hP; exact BR.go; exact BR.go; exact BS.go)
  | (apply goQ.f hn hx; exact BR.go; exact BR.go; exact BE.go)
  | (apply goK.k hP hn hx; exact slices_IndexFunc_string_string_impl_ProgramOk_1.link _ _ _ (by assumption); exact BS.go)
  | (apply Ok.bk #[.tmp 4] hC.out hP hx hF; exact BR.go; exact BF.go; exact BF.go; exact BF.go; exact BM.go; exact BR.go; exact BR.go; exact BR.go; exact B1.go; exact BR.go))
end Go.Proofs.Ytmbkcbgbienjoaa.PFnExactProgramOk
