/- Functions' walks: each computes what its plain form says. No condition. -/
import Derived.Test.YtmbkcbgbienjoaaLkFnExactProgramOkh
import Derived.Test.YtmbkcbgbienjoaaLkFnExactProgramOka
import Derived.Test.YtmbkcbgbienjoaaLkFnExactProgramOkb
import Derived.Test.YtmbkcbgbienjoaaLkFnExactProgramOkf
import Derived.Test.YtmbkcbgbienjoaaLkFnExactProgramOkg
import Derived.Test.YtmbkcbgbienjoaaLkFnExactProgramOkj
open Go Go.Proofs Go.Proofs.Ytmbkcbgbienjoaa.Abs
namespace Go.Proofs.Ytmbkcbgbienjoaa.PFnExactProgramOk
open Go.RowKit Go.Proofs.YtmbkcbgbienjoaaW.PrintWords Go.Proofs.YtmbkcbgbienjoaaW.PrintLast Go.Proofs.YtmbkcbgbienjoaaW.PrintMore
set_option linter.unusedVariables false
set_option linter.unusedSimpArgs false
set_option maxRecDepth 100000
attribute [local irreducible] evK evQ evM evF evW evH goE goK goKD goQ goQD goD Ok ACalls
set_option maxHeartbeats 8000000 in
theorem slices_IndexFunc_int_int_impl_ProgramOk_2.link (k : Nat) (l0 : List Int) (r : Int) (H : slices_IndexFunc_int_int_impl_ProgramOk_2.f k l0 = some r) : ACalls Try.prog 134 [.dat false [.sl none 1 (List.flatMap eI l0)], .clo 98 []] [(false, [.sc (.int .i64 r)])] [.dat false [.sl none 1 (List.flatMap eI l0)], .clo 98 []] := by
 refine ACalls.enter Try.func134 (by kernel_rfl) rfl (by rw [Try.ntmps134]; exact Nat.le_of_ble_eq_true rfl) (fun C F hC hP hf hn hx => ?_)
 rw [Try.ntmps134] at hn
 have hF : Try.prog.funcs[C.fid]? = some Try.f134 := hf ▸ Try.func134
 replace hC := Hold.mk hC
 replace hx : C.fx = [1] := hx
 simp only [entry, entE, enumM, rwA, rwC, Nat.reduceAdd] at ⊢
 simp only [slices_IndexFunc_int_int_impl_ProgramOk_2.f, List.length_append, List.length_cons, List.length_nil, Nat.zero_add, beq_dec, bne_dec, Bool.or_eq_true, Bool.and_eq_true, Bool.not_eq_true', decide_eq_true_eq, decide_eq_false_iff_not, ite_or', ite_and', ite_not', ge_iff_le, gt_iff_lt] at H
 repeat' first
  | (with_reducible replace H := sBindA H (by assumption))
  | (with_reducible replace H := sBindS H)
  | (with_reducible replace H := sBind H); obtain ⟨t, hA, H⟩ := H
  | (with_reducible replace H := sBool H); obtain ⟨c, H⟩ | ⟨c, H⟩ := H
  | (with_reducible replace H := sEq H); obtain ⟨c, c', H⟩ | ⟨c, c', H⟩ := H
  | (with_reducible replace H := sEqL H); obtain ⟨c, H⟩ | ⟨c, H⟩ := H
  | (with_reducible replace H := sIte H); obtain ⟨c, H⟩ | ⟨c, H⟩ := H
  | (with_reducible replace H := sAnd H); obtain ⟨c, H⟩ | ⟨c, H⟩ := H
  | (with_reducible replace H := sOr H); obtain ⟨c, H⟩ | ⟨c, H⟩ := H
 all_goals first
  | cases H
  | replace H := Hold.mk H
 all_goals repeat (first
  | apply Ok.seq
  | apply Ok.skip
  | (apply Ok.rN [0, 1, 4, 5, 7, 8, 9, 16] hP hn hx; exact BR.go; exact BV.go)
  | (apply Ok.gS)
  | (apply Ok.cn; exact BS.go)
  | apply Ok.block
  | apply Ok.inBlock
  | (apply Ok.ex; exact BR.go)
  | (apply goE.e [0, 1, 4, 5, 7, 8, 9, 16] hP hn hx; exact BR.go; exact BV.go)
  | (apply goE.n hP hn hx; exact BR.go; exact BJ.go; exact BU.go)
  | (apply goE.q; exact BR.go; exact BG.go; exact BW.go)
  | (apply goQ.t hP; exact BR.go; exact BR.go; exact BS.go)
  | (apply goQ.f hn hx; exact BR.go; exact BR.go; exact BE.go)
  | (apply goK.k hP hn hx; exact impl_ProgramOk_2.link _ _ (by assumption); exact BS.go)
  | (apply Ok.bk #[.tmp 4] hC.out hP hx hF; exact BR.go; exact BF.go; exact BF.go; exact BF.go; exact BM.go; exact BR.go; exact BR.go; exact BR.go; exact B1.go; exact BR.go)
  | (apply Ok.lq [0, 1, 7, 8] (fun q X => ∃ x0, ∃ x7, ∃ x8, X = ⟨[(0, .dat false [.sl none 1 (List.flatMap eI x0)]), (1, .clo 98 []), (7, .dat false [.sc (.int .i64 x7)]), (8, .dat false [.sc (.int .i64 x8)])], []⟩ ∧ q ≤ k ∧ slices_IndexFunc_int_int_impl_ProgramOk_2.l0 q x0 x7 x8 = some r); exact BT.go; exact ⟨_, _, _, _, by first | rfl | (simp (disch := omega) only [go_sem, ↓reduceIte, eq_self, and_self]; done), by omega, H.out⟩))
 all_goals intro q0_1 X hJ ih0
 all_goals clear H
 all_goals obtain ⟨x0, x7, x8, rfl, hq, H⟩ := hJ
 all_goals (cases q0_1 with
  | zero => (simp only [slices_IndexFunc_int_int_impl_ProgramOk_2.l0] at H; cases H)
  | succ kq0_1 =>
   simp only [slices_IndexFunc_int_int_impl_ProgramOk_2.l0, List.length_append, List.length_cons, List.length_nil, Nat.zero_add, beq_dec, bne_dec, Bool.or_eq_true, Bool.and_eq_true, Bool.not_eq_true', decide_eq_true_eq, decide_eq_false_iff_not, ite_or', ite_and', ite_not', ge_iff_le, gt_iff_lt] at H
   repeat' first
    | (with_reducible replace H := sBindA H (by assumption))
    | (with_reducible replace H := sBindS H)
    | (with_reducible replace H := sBind H); obtain ⟨t, hA, H⟩ := H
    | (with_reducible replace H := sBool H); obtain ⟨c, H⟩ | ⟨c, H⟩ := H
    | (with_reducible replace H := sEq H); obtain ⟨c, c', H⟩ | ⟨c, c', H⟩ := H
    | (with_reducible replace H := sEqL H); obtain ⟨c, H⟩ | ⟨c, H⟩ := H
    | (with_reducible replace H := sIte H); obtain ⟨c, H⟩ | ⟨c, H⟩ := H
    | (with_reducible replace H := sAnd H); obtain ⟨c, H⟩ | ⟨c, H⟩ := H
    | (with_reducible replace H := sOr H); obtain ⟨c, H⟩ | ⟨c, H⟩ := H
   all_goals first
    | cases H
    | (exfalso; clear H; omega)
    | replace H := Hold.mk H
   all_goals repeat (first
    | apply Ok.seq
    | apply Ok.skip
    | (apply Ok.rN [0, 1, 4, 5, 7, 8, 9, 16] hP hn hx; exact BR.go; exact BV.go)
    | (apply Ok.gS)
    | (apply Ok.cn; exact BS.go)
    | apply Ok.block
    | apply Ok.inBlock
    | (apply Ok.ex; exact BR.go)
    | (apply goE.e [0, 1, 4, 5, 7, 8, 9, 16] hP hn hx; exact BR.go; exact BV.go)
    | (apply goE.n hP hn hx; exact BR.go; exact BJ.go; exact BU.go)
    | (apply goE.q; exact BR.go; exact BG.go; exact BW.go)
    | (apply goQ.t hP; exact BR.go; exact BR.go; exact BS.go)
    | (apply goQ.f hn hx; exact BR.go; exact BR.go; exact BE.go)
    | (apply goK.k hP hn hx; exact impl_ProgramOk_2.link _ _ (by assumption); exact BS.go)
    | (apply Ok.bk #[.tmp 4] hC.out hP hx hF; exact BR.go; exact BF.go; exact BF.go; exact BF.go; exact BM.go; exact BR.go; exact BR.go; exact BR.go; exact B1.go; exact BR.go)
    | (apply Ok.ag [0, 1, 7, 8] ih0; exact BT.go; exact ⟨_, by omega, _, _, _, by first | rfl | (simp (disch := omega) only [go_sem, ↓reduceIte, eq_self, and_self]; done), by omega, H.out⟩; done)))
set_option maxHeartbeats 8000000 in
theorem slices_ContainsFunc_int_int_impl_ProgramOk_2.link (k : Nat) (l0 : List Int) (r : Bool) (H : slices_ContainsFunc_int_int_impl_ProgramOk_2.f k l0 = some r) : ACalls Try.prog 97 [.dat false [.sl none 1 (List.flatMap eI l0)], .clo 98 []] [(false, [.sc (.bool r)])] [.dat false [.sl none 1 (List.flatMap eI l0)], .clo 98 []] := by
 refine ACalls.enter Try.func97 (by kernel_rfl) rfl (by rw [Try.ntmps97]; exact Nat.le_of_ble_eq_true rfl) (fun C F hC hP hf hn hx => ?_)
 rw [Try.ntmps97] at hn
 have hF : Try.prog.funcs[C.fid]? = some Try.f97 := hf ▸ Try.func97
 replace hC := Hold.mk hC
 replace hx : C.fx = [1] := hx
 simp only [entry, entE, enumM, rwA, rwC, Nat.reduceAdd] at ⊢
 simp only [slices_ContainsFunc_int_int_impl_ProgramOk_2.f, List.length_append, List.length_cons, List.length_nil, Nat.zero_add, beq_dec, bne_dec, Bool.or_eq_true, Bool.and_eq_true, Bool.not_eq_true', decide_eq_true_eq, decide_eq_false_iff_not, ite_or', ite_and', ite_not', ge_iff_le, gt_iff_lt] at H
 repeat' first
  | (with_reducible replace H := sBindA H (by assumption))
  | (with_reducible replace H := sBindS H)
  | (with_reducible replace H := sBind H); obtain ⟨t, hA, H⟩ := H
  | (with_reducible replace H := sBool H); obtain ⟨c, H⟩ | ⟨c, H⟩ := H
  | (with_reducible replace H := sEq H); obtain ⟨c, c', H⟩ | ⟨c, c', H⟩ := H
  | (with_reducible replace H := sEqL H); obtain ⟨c, H⟩ | ⟨c, H⟩ := H
  | (with_reducible replace H := sIte H); obtain ⟨c, H⟩ | ⟨c, H⟩ := H
  | (with_reducible replace H := sAnd H); obtain ⟨c, H⟩ | ⟨c, H⟩ := H
  | (with_reducible replace H := sOr H); obtain ⟨c, H⟩ | ⟨c, H⟩ := H
 all_goals first
  | cases H
  | replace H := Hold.mk H
 all_goals repeat (first
  | apply Ok.seq
  | apply Ok.skip
  | (apply Ok.rN [0, 1, 4] hP hn hx; exact BR.go; exact BV.go)
  | (apply Ok.gS)
  | (apply Ok.cn; exact BS.go)
  | apply Ok.block
  | apply Ok.inBlock
  | (apply Ok.ex; exact BR.go)
  | (apply goE.e [0, 1, 4] hP hn hx; exact BR.go; exact BV.go)
  | (apply goE.n hP hn hx; exact BR.go; exact BJ.go; exact BU.go)
  | (apply goE.q; exact BR.go; exact BG.go; exact BW.go)
  | (apply goQ.t hP; exact BR.go; exact BR.go; exact BS.go)
  | (apply goQ.f hn hx; exact BR.go; exact BR.go; exact BE.go)
  | (apply goK.k hP hn hx; exact slices_IndexFunc_int_int_impl_ProgramOk_2.link _ _ _ (by assumption); exact BS.go)
  | (apply Ok.bk #[.tmp 4] hC.out hP hx hF; exact BR.go; exact BF.go; exact BF.go; exact BF.go; exact BM.go; exact BR.go; exact BR.go; exact BR.go; exact B1.go; exact BR.go))
set_option maxHeartbeats 8000000 in
theorem impl_ProgramOk.link (k : Nat) (l0_0 : List (S77)) (l0_1 : List (S106)) (l0_2 : List (S103)) (r : Bool) (H : impl_ProgramOk.f k l0_0 l0_1 l0_2 = some r) : ACalls Try.prog 44 [.dat true [.sl none 6 (List.flatMap e77 l0_0), .sl none 4 (List.flatMap e106 l0_1), .sl none 4 (List.flatMap e103 l0_2)]] [(false, [.sc (.bool r)])] [.dat true [.sl none 6 (List.flatMap e77 l0_0), .sl none 4 (List.flatMap e106 l0_1), .sl none 4 (List.flatMap e103 l0_2)]] := by
 refine ACalls.enter Try.func44 (by kernel_rfl) rfl (by rw [Try.ntmps44]; exact Nat.le_of_ble_eq_true rfl) (fun C F hC hP hf hn hx => ?_)
 rw [Try.ntmps44] at hn
 have hF : Try.prog.funcs[C.fid]? = some Try.f44 := hf ▸ Try.func44
 replace hC := Hold.mk hC
 replace hx : C.fx = [] := hx
 simp only [entry, entE, enumM, rwA, rwC, Nat.reduceAdd] at ⊢
 simp only [impl_ProgramOk.f] at H
 replace H := Hold.mk H
 repeat (first
  | refine Ok.cutR 1 (fun X => ∃ x17, ∃ x556000, ∃ x556001, ∃ x556002, ∃ q, X = ⟨[(1, .pl 0 none 0), (17, .dat false [.sc (.bool x17)])], [(0, .mem [.sl none 6 (List.flatMap e77 x556000), .sl none 4 (List.flatMap e106 x556001), .sl none 4 (List.flatMap e103 x556002)])]⟩ ∧ q ≤ k ∧ impl_ProgramOk.j0 q x17 x556000 x556001 x556002 = some r) ?_ ?_
  | apply Ok.seq
  | apply Ok.skip
  | (apply Ok.rN [0, 1, 2, 3, 4, 5, 7, 9, 17, 23, 24, 25, 26, 39, 41, 42, 43, 44, 56, 57, 58, 59, 65] hP hn hx; exact BR.go; exact BV.go)
  | (apply Ok.gS)
  | (apply Ok.cn; exact BS.go)
  | apply Ok.block
  | apply Ok.inBlock
  | (apply Ok.ex; exact BR.go)
  | (apply goE.e [0, 1, 2, 3, 4, 5, 7, 9, 17, 23, 24, 25, 26, 39, 41, 42, 43, 44, 56, 57, 58, 59, 65] hP hn hx; exact BR.go; exact BV.go)
  | (apply goE.n hP hn hx; exact BR.go; exact BJ.go; exact BU.go)
  | (apply goE.q; exact BR.go; exact BG.go; exact BW.go)
  | (apply goQ.t hP; exact BR.go; exact BR.go; exact BS.go)
  | (apply goQ.f hn hx; exact BR.go; exact BR.go; exact BE.go)
  | (apply goK.k hP hn hx; exact impl_isBlock.link _ _ _ _ _ (by assumption); exact BS.go)
  | (apply goK.k hP hn hx; exact impl_NodeOk.link _ _ _ _ _ _ (by assumption); exact BS.go)
  | (apply goK.k hP hn hx; exact impl_DeepOf.link _ _ _ _ _ _ (by assumption); exact BS.go)
  | (apply goK.k hP hn hx; exact impl_countsOk.link _ _ _ _ _ (by assumption); exact BS.go)
  | (apply goK.k hP hn hx; exact impl_namesIn.link _ _ _ _ _ (by assumption); exact BS.go)
  | (apply goK.k hP hn hx; exact impl_bodies.link _ _ _ _ _ (by assumption); exact BS.go)
  | (apply goK.k hP hn hx; exact slices_ContainsFunc_string_string_impl_ProgramOk_1.link _ _ _ (by assumption); exact BS.go)
  | (apply goK.k hP hn hx; exact slices_ContainsFunc_int_int_impl_ProgramOk_2.link _ _ _ (by assumption); exact BS.go)
  | (apply Ok.bk #[.tmp 2] hC.out hP hx hF; exact BR.go; exact BF.go; exact BF.go; exact BF.go; exact BM.go; exact BR.go; exact BR.go; exact BR.go; exact B1.go; exact BR.go))
 · intro hjj0
   replace H := H.out
   (try simp only [List.length_append, List.length_cons, List.length_nil, Nat.zero_add, beq_dec, bne_dec, Bool.or_eq_true, Bool.and_eq_true, Bool.not_eq_true', decide_eq_true_eq, decide_eq_false_iff_not, ite_or', ite_and', ite_not', ge_iff_le, gt_iff_lt] at H)
   repeat' first
    | (with_reducible replace H := sBindA H (by assumption))
    | (with_reducible replace H := sBindS H)
    | (with_reducible replace H := sBind H); obtain ⟨t, hA, H⟩ := H
    | (with_reducible replace H := sBool H); obtain ⟨c, H⟩ | ⟨c, H⟩ := H
    | (with_reducible replace H := sEq H); obtain ⟨c, c', H⟩ | ⟨c, c', H⟩ := H
    | (with_reducible replace H := sEqL H); obtain ⟨c, H⟩ | ⟨c, H⟩ := H
    | (with_reducible replace H := sIte H); obtain ⟨c, H⟩ | ⟨c, H⟩ := H
    | (with_reducible replace H := sAnd H); obtain ⟨c, H⟩ | ⟨c, H⟩ := H
    | (with_reducible replace H := sOr H); obtain ⟨c, H⟩ | ⟨c, H⟩ := H
   all_goals first
    | cases H
    | replace H := Hold.mk H
   all_goals repeat (first
    | (apply Ok.mt [1, 17] hjj0; exact BT.go; exact ⟨_, _, _, _, k, by first | rfl | (simp (disch := omega) only [go_sem, ↓reduceIte, eq_self, and_self]; done), by omega, by first | exact H.out | (have h0 := H.out; simp only [*, go_sem, ↓reduceIte, reduceCtorEq] at h0 ⊢; exact h0)⟩; done)
    | apply Ok.seq
    | apply Ok.skip
    | (apply Ok.rN [0, 1, 2, 3, 4, 5, 7, 9, 17, 23, 24, 25, 26, 39, 41, 42, 43, 44, 56, 57, 58, 59, 65] hP hn hx; exact BR.go; exact BV.go)
    | (apply Ok.gS)
    | (apply Ok.cn; exact BS.go)
    | apply Ok.block
    | apply Ok.inBlock
    | (apply Ok.ex; exact BR.go)
    | (apply goE.e [0, 1, 2, 3, 4, 5, 7, 9, 17, 23, 24, 25, 26, 39, 41, 42, 43, 44, 56, 57, 58, 59, 65] hP hn hx; exact BR.go; exact BV.go)
    | (apply goE.n hP hn hx; exact BR.go; exact BJ.go; exact BU.go)
    | (apply goE.q; exact BR.go; exact BG.go; exact BW.go)
    | (apply goQ.t hP; exact BR.go; exact BR.go; exact BS.go)
    | (apply goQ.f hn hx; exact BR.go; exact BR.go; exact BE.go)
    | (apply goK.k hP hn hx; exact impl_isBlock.link _ _ _ _ _ (by assumption); exact BS.go)
    | (apply goK.k hP hn hx; exact impl_NodeOk.link _ _ _ _ _ _ (by assumption); exact BS.go)
    | (apply goK.k hP hn hx; exact impl_DeepOf.link _ _ _ _ _ _ (by assumption); exact BS.go)
    | (apply goK.k hP hn hx; exact impl_countsOk.link _ _ _ _ _ (by assumption); exact BS.go)
    | (apply goK.k hP hn hx; exact impl_namesIn.link _ _ _ _ _ (by assumption); exact BS.go)
    | (apply goK.k hP hn hx; exact impl_bodies.link _ _ _ _ _ (by assumption); exact BS.go)
    | (apply goK.k hP hn hx; exact slices_ContainsFunc_string_string_impl_ProgramOk_1.link _ _ _ (by assumption); exact BS.go)
    | (apply goK.k hP hn hx; exact slices_ContainsFunc_int_int_impl_ProgramOk_2.link _ _ _ (by assumption); exact BS.go)
    | (apply Ok.bk #[.tmp 2] hC.out hP hx hF; exact BR.go; exact BF.go; exact BF.go; exact BF.go; exact BM.go; exact BR.go; exact BR.go; exact BR.go; exact B1.go; exact BR.go))
 · clear H
   intro X hJ
   obtain ⟨x17, x556000, x556001, x556002, qj0_1, rfl, hq, H⟩ := hJ
   (cases qj0_1 with
    | zero => (simp only [impl_ProgramOk.j0] at H; cases H)
    | succ kqj0_1 =>
     simp only [impl_ProgramOk.j0, List.length_append, List.length_cons, List.length_nil, Nat.zero_add, beq_dec, bne_dec, Bool.or_eq_true, Bool.and_eq_true, Bool.not_eq_true', decide_eq_true_eq, decide_eq_false_iff_not, ite_or', ite_and', ite_not', ge_iff_le, gt_iff_lt] at H
     repeat' first
      | (with_reducible replace H := sBindA H (by assumption))
      | (with_reducible replace H := sBindS H)
      | (with_reducible replace H := sBind H); obtain ⟨t, hA, H⟩ := H
      | (with_reducible replace H := sBool H); obtain ⟨c, H⟩ | ⟨c, H⟩ := H
      | (with_reducible replace H := sEq H); obtain ⟨c, c', H⟩ | ⟨c, c', H⟩ := H
      | (with_reducible replace H := sEqL H); obtain ⟨c, H⟩ | ⟨c, H⟩ := H
      | (with_reducible replace H := sIte H); obtain ⟨c, H⟩ | ⟨c, H⟩ := H
      | (with_reducible replace H := sAnd H); obtain ⟨c, H⟩ | ⟨c, H⟩ := H
      | (with_reducible replace H := sOr H); obtain ⟨c, H⟩ | ⟨c, H⟩ := H
     all_goals first
      | cases H
      | (exfalso; clear H; omega)
      | replace H := Hold.mk H
     all_goals repeat (first
      | apply Ok.seq
      | apply Ok.skip
      | (apply Ok.rN [0, 1, 2, 3, 4, 5, 7, 9, 17, 23, 24, 25, 26, 39, 41, 42, 43, 44, 56, 57, 58, 59, 65] hP hn hx; exact BR.go; exact BV.go)
      | (apply Ok.gS)
      | (apply Ok.cn; exact BS.go)
      | apply Ok.block
      | apply Ok.inBlock
      | (apply Ok.ex; exact BR.go)
      | (apply goE.e [0, 1, 2, 3, 4, 5, 7, 9, 17, 23, 24, 25, 26, 39, 41, 42, 43, 44, 56, 57, 58, 59, 65] hP hn hx; exact BR.go; exact BV.go)
      | (apply goE.n hP hn hx; exact BR.go; exact BJ.go; exact BU.go)
      | (apply goE.q; exact BR.go; exact BG.go; exact BW.go)
      | (apply goQ.t hP; exact BR.go; exact BR.go; exact BS.go)
      | (apply goQ.f hn hx; exact BR.go; exact BR.go; exact BE.go)
      | (apply goK.k hP hn hx; exact impl_isBlock.link _ _ _ _ _ (by assumption); exact BS.go)
      | (apply goK.k hP hn hx; exact impl_NodeOk.link _ _ _ _ _ _ (by assumption); exact BS.go)
      | (apply goK.k hP hn hx; exact impl_DeepOf.link _ _ _ _ _ _ (by assumption); exact BS.go)
      | (apply goK.k hP hn hx; exact impl_countsOk.link _ _ _ _ _ (by assumption); exact BS.go)
      | (apply goK.k hP hn hx; exact impl_namesIn.link _ _ _ _ _ (by assumption); exact BS.go)
      | (apply goK.k hP hn hx; exact impl_bodies.link _ _ _ _ _ (by assumption); exact BS.go)
      | (apply goK.k hP hn hx; exact slices_ContainsFunc_string_string_impl_ProgramOk_1.link _ _ _ (by assumption); exact BS.go)
      | (apply goK.k hP hn hx; exact slices_ContainsFunc_int_int_impl_ProgramOk_2.link _ _ _ (by assumption); exact BS.go)
      | (apply Ok.bk #[.tmp 2] hC.out hP hx hF; exact BR.go; exact BF.go; exact BF.go; exact BF.go; exact BM.go; exact BR.go; exact BR.go; exact BR.go; exact B1.go; exact BR.go)
      | (apply Ok.lq [1, 3, 23, 24, 25] (fun q X => ∃ x3, ∃ x23, ∃ x24, ∃ x25, ∃ x556000, ∃ x556001, ∃ x556002, X = ⟨[(1, .pl 0 none 0), (3, .bor 1 none 0 1 false), (23, .dat false [.sl none 6 (List.flatMap e77 x23)]), (24, .dat false [.sc (.int .i64 x24)]), (25, .dat false [.sc (.int .i64 x25)])], [(0, .mem [.sl none 6 (List.flatMap e77 x556000), .sl none 4 (List.flatMap e106 x556001), .sl none 4 (List.flatMap e103 x556002)]), (1, .vir [.sl (some 0) 1 (List.flatMap eI x3)])]⟩ ∧ q ≤ kqj0_1 ∧ impl_ProgramOk.l0 q x3 x23 x24 x25 x556000 x556001 x556002 = some r); exact BT.go; exact ⟨_, _, _, _, _, _, _, _, by first | rfl | (simp (disch := omega) only [go_sem, ↓reduceIte, eq_self, and_self]; done), by omega, H.out⟩))
     all_goals intro q0_2 X hJ ih0
     all_goals clear H
     all_goals obtain ⟨x3, x23, x24, x25, x556000, x556001, x556002, rfl, hq, H⟩ := hJ
     all_goals (cases q0_2 with
      | zero => (simp only [impl_ProgramOk.l0] at H; cases H)
      | succ kq0_2 =>
       simp only [impl_ProgramOk.l0] at H
       replace H := Hold.mk H
       obtain ⟨H, H0⟩ | ⟨H, H0⟩ := sIteU H.out
       · (try simp only [List.length_append, List.length_cons, List.length_nil, Nat.zero_add, beq_dec, bne_dec, Bool.or_eq_true, Bool.and_eq_true, Bool.not_eq_true', decide_eq_true_eq, decide_eq_false_iff_not, ite_or', ite_and', ite_not', ge_iff_le, gt_iff_lt] at H)
         repeat' first
          | (with_reducible replace H := sBindA H (by assumption))
          | (with_reducible replace H := sBindS H)
          | (with_reducible replace H := sBind H); obtain ⟨t, hA, H⟩ := H
          | (with_reducible replace H := sBool H); obtain ⟨c, H⟩ | ⟨c, H⟩ := H
          | (with_reducible replace H := sEq H); obtain ⟨c, c', H⟩ | ⟨c, c', H⟩ := H
          | (with_reducible replace H := sEqL H); obtain ⟨c, H⟩ | ⟨c, H⟩ := H
          | (with_reducible replace H := sIte H); obtain ⟨c, H⟩ | ⟨c, H⟩ := H
          | (with_reducible replace H := sAnd H); obtain ⟨c, H⟩ | ⟨c, H⟩ := H
          | (with_reducible replace H := sOr H); obtain ⟨c, H⟩ | ⟨c, H⟩ := H
         all_goals cases H
         all_goals (replace H0 := Hold.mk H0; have H := H0; clear H0)
         all_goals (
          obtain ⟨H, H0⟩ | ⟨H, H0⟩ := sIteU H.out
          · (try simp only [List.length_append, List.length_cons, List.length_nil, Nat.zero_add, beq_dec, bne_dec, Bool.or_eq_true, Bool.and_eq_true, Bool.not_eq_true', decide_eq_true_eq, decide_eq_false_iff_not, ite_or', ite_and', ite_not', ge_iff_le, gt_iff_lt] at H)
            repeat' first
             | (with_reducible replace H := sBindA H (by assumption))
             | (with_reducible replace H := sBindS H)
             | (with_reducible replace H := sBind H); obtain ⟨t, hA, H⟩ := H
             | (with_reducible replace H := sBool H); obtain ⟨c, H⟩ | ⟨c, H⟩ := H
             | (with_reducible replace H := sEq H); obtain ⟨c, c', H⟩ | ⟨c, c', H⟩ := H
             | (with_reducible replace H := sEqL H); obtain ⟨c, H⟩ | ⟨c, H⟩ := H
             | (with_reducible replace H := sIte H); obtain ⟨c, H⟩ | ⟨c, H⟩ := H
             | (with_reducible replace H := sAnd H); obtain ⟨c, H⟩ | ⟨c, H⟩ := H
             | (with_reducible replace H := sOr H); obtain ⟨c, H⟩ | ⟨c, H⟩ := H
            all_goals cases H
            all_goals (replace H0 := Hold.mk H0; have H := H0; clear H0)
            all_goals (
             obtain ⟨H, H0⟩ | ⟨H, H0⟩ := sIteU H.out
             · (try simp only [List.length_append, List.length_cons, List.length_nil, Nat.zero_add, beq_dec, bne_dec, Bool.or_eq_true, Bool.and_eq_true, Bool.not_eq_true', decide_eq_true_eq, decide_eq_false_iff_not, ite_or', ite_and', ite_not', ge_iff_le, gt_iff_lt] at H)
               repeat' first
                | (with_reducible replace H := sBindA H (by assumption))
                | (with_reducible replace H := sBindS H)
                | (with_reducible replace H := sBind H); obtain ⟨t, hA, H⟩ := H
                | (with_reducible replace H := sBool H); obtain ⟨c, H⟩ | ⟨c, H⟩ := H
                | (with_reducible replace H := sEq H); obtain ⟨c, c', H⟩ | ⟨c, c', H⟩ := H
                | (with_reducible replace H := sEqL H); obtain ⟨c, H⟩ | ⟨c, H⟩ := H
                | (with_reducible replace H := sIte H); obtain ⟨c, H⟩ | ⟨c, H⟩ := H
                | (with_reducible replace H := sAnd H); obtain ⟨c, H⟩ | ⟨c, H⟩ := H
                | (with_reducible replace H := sOr H); obtain ⟨c, H⟩ | ⟨c, H⟩ := H
               all_goals cases H
               all_goals (replace H0 := Hold.mk H0; have H := H0; clear H0)
               all_goals (
                repeat (first
                 | refine Ok.cutR 7 (fun X => ∃ x3, ∃ x23, ∃ x24, ∃ x25, ∃ x39, ∃ x556000, ∃ x556001, ∃ x556002, ∃ x569000, ∃ x569001, ∃ x569002, ∃ x569003, ∃ x569004, ∃ x569005, ∃ q, X = ⟨[(1, .pl 0 none 0), (3, .bor 1 none 0 1 false), (5, .pl 2 none 0), (23, .dat false [.sl none 6 (List.flatMap e77 x23)]), (24, .dat false [.sc (.int .i64 x24)]), (25, .dat false [.sc (.int .i64 x25)]), (39, .dat false [.sc (.bool x39)])], [(0, .mem [.sl none 6 (List.flatMap e77 x556000), .sl none 4 (List.flatMap e106 x556001), .sl none 4 (List.flatMap e103 x556002)]), (1, .vir [.sl (some 0) 1 (List.flatMap eI x3)]), (2, .mem [.sc (.int .i64 x569000), .sc (.int .i64 x569001), .sc (.string x569002), .sc (.string x569003), .sc (.string x569004), .sl none 1 (List.flatMap eI x569005)])]⟩ ∧ q ≤ kq0_2 ∧ impl_ProgramOk.j2 q x3 x23 x24 x25 x39 x556000 x556001 x556002 x569000 x569001 x569002 x569003 x569004 x569005 = some r) ?_ ?_
                 | apply Ok.seq
                 | apply Ok.skip
                 | (apply Ok.rN [0, 1, 2, 3, 4, 5, 7, 9, 17, 23, 24, 25, 26, 39, 41, 42, 43, 44, 56, 57, 58, 59, 65] hP hn hx; exact BR.go; exact BV.go)
                 | (apply Ok.gS)
                 | (apply Ok.cn; exact BS.go)
                 | apply Ok.block
                 | apply Ok.inBlock
                 | (apply Ok.ex; exact BR.go)
                 | (apply goE.e [0, 1, 2, 3, 4, 5, 7, 9, 17, 23, 24, 25, 26, 39, 41, 42, 43, 44, 56, 57, 58, 59, 65] hP hn hx; exact BR.go; exact BV.go)
                 | (apply goE.n hP hn hx; exact BR.go; exact BJ.go; exact BU.go)
                 | (apply goE.q; exact BR.go; exact BG.go; exact BW.go)
                 | (apply goQ.t hP; exact BR.go; exact BR.go; exact BS.go)
                 | (apply goQ.f hn hx; exact BR.go; exact BR.go; exact BE.go)
                 | (apply goK.k hP hn hx; exact impl_isBlock.link _ _ _ _ _ (by assumption); exact BS.go)
                 | (apply goK.k hP hn hx; exact impl_NodeOk.link _ _ _ _ _ _ (by assumption); exact BS.go)
                 | (apply goK.k hP hn hx; exact impl_DeepOf.link _ _ _ _ _ _ (by assumption); exact BS.go)
                 | (apply goK.k hP hn hx; exact impl_countsOk.link _ _ _ _ _ (by assumption); exact BS.go)
                 | (apply goK.k hP hn hx; exact impl_namesIn.link _ _ _ _ _ (by assumption); exact BS.go)
                 | (apply goK.k hP hn hx; exact impl_bodies.link _ _ _ _ _ (by assumption); exact BS.go)
                 | (apply goK.k hP hn hx; exact slices_ContainsFunc_string_string_impl_ProgramOk_1.link _ _ _ (by assumption); exact BS.go)
                 | (apply goK.k hP hn hx; exact slices_ContainsFunc_int_int_impl_ProgramOk_2.link _ _ _ (by assumption); exact BS.go)
                 | (apply Ok.bk #[.tmp 2] hC.out hP hx hF; exact BR.go; exact BF.go; exact BF.go; exact BF.go; exact BM.go; exact BR.go; exact BR.go; exact BR.go; exact B1.go; exact BR.go))
                · intro hjj2
                  replace H := H.out
                  (try simp only [List.length_append, List.length_cons, List.length_nil, Nat.zero_add, beq_dec, bne_dec, Bool.or_eq_true, Bool.and_eq_true, Bool.not_eq_true', decide_eq_true_eq, decide_eq_false_iff_not, ite_or', ite_and', ite_not', ge_iff_le, gt_iff_lt] at H)
                  repeat' first
                   | (with_reducible replace H := sBindA H (by assumption))
                   | (with_reducible replace H := sBindS H)
                   | (with_reducible replace H := sBind H); obtain ⟨t, hA, H⟩ := H
                   | (with_reducible replace H := sBool H); obtain ⟨c, H⟩ | ⟨c, H⟩ := H
                   | (with_reducible replace H := sEq H); obtain ⟨c, c', H⟩ | ⟨c, c', H⟩ := H
                   | (with_reducible replace H := sEqL H); obtain ⟨c, H⟩ | ⟨c, H⟩ := H
                   | (with_reducible replace H := sIte H); obtain ⟨c, H⟩ | ⟨c, H⟩ := H
                   | (with_reducible replace H := sAnd H); obtain ⟨c, H⟩ | ⟨c, H⟩ := H
                   | (with_reducible replace H := sOr H); obtain ⟨c, H⟩ | ⟨c, H⟩ := H
                  all_goals first
                   | cases H
                   | replace H := Hold.mk H
                  all_goals repeat (first
                   | (apply Ok.mt [1, 3, 5, 23, 24, 25, 39] hjj2; exact BT.go; exact ⟨_, _, _, _, _, _, _, _, _, _, _, _, _, _, kq0_2, by first | rfl | (simp (disch := omega) only [go_sem, ↓reduceIte, eq_self, and_self]; done), by omega, by first | exact H.out | (have h0 := H.out; simp only [*, go_sem, ↓reduceIte, reduceCtorEq] at h0 ⊢; exact h0)⟩; done)
                   | apply Ok.seq
                   | apply Ok.skip
                   | (apply Ok.rN [0, 1, 2, 3, 4, 5, 7, 9, 17, 23, 24, 25, 26, 39, 41, 42, 43, 44, 56, 57, 58, 59, 65] hP hn hx; exact BR.go; exact BV.go)
                   | (apply Ok.gS)
                   | (apply Ok.cn; exact BS.go)
                   | apply Ok.block
                   | apply Ok.inBlock
                   | (apply Ok.ex; exact BR.go)
                   | (apply goE.e [0, 1, 2, 3, 4, 5, 7, 9, 17, 23, 24, 25, 26, 39, 41, 42, 43, 44, 56, 57, 58, 59, 65] hP hn hx; exact BR.go; exact BV.go)
                   | (apply goE.n hP hn hx; exact BR.go; exact BJ.go; exact BU.go)
                   | (apply goE.q; exact BR.go; exact BG.go; exact BW.go)
                   | (apply goQ.t hP; exact BR.go; exact BR.go; exact BS.go)
                   | (apply goQ.f hn hx; exact BR.go; exact BR.go; exact BE.go)
                   | (apply goK.k hP hn hx; exact impl_isBlock.link _ _ _ _ _ (by assumption); exact BS.go)
                   | (apply goK.k hP hn hx; exact impl_NodeOk.link _ _ _ _ _ _ (by assumption); exact BS.go)
                   | (apply goK.k hP hn hx; exact impl_DeepOf.link _ _ _ _ _ _ (by assumption); exact BS.go)
                   | (apply goK.k hP hn hx; exact impl_countsOk.link _ _ _ _ _ (by assumption); exact BS.go)
                   | (apply goK.k hP hn hx; exact impl_namesIn.link _ _ _ _ _ (by assumption); exact BS.go)
                   | (apply goK.k hP hn hx; exact impl_bodies.link _ _ _ _ _ (by assumption); exact BS.go)
                   | (apply goK.k hP hn hx; exact slices_ContainsFunc_string_string_impl_ProgramOk_1.link _ _ _ (by assumption); exact BS.go)
                   | (apply goK.k hP hn hx; exact slices_ContainsFunc_int_int_impl_ProgramOk_2.link _ _ _ (by assumption); exact BS.go)
                   | (apply Ok.bk #[.tmp 2] hC.out hP hx hF; exact BR.go; exact BF.go; exact BF.go; exact BF.go; exact BM.go; exact BR.go; exact BR.go; exact BR.go; exact B1.go; exact BR.go)
                   | (apply Ok.ag [1, 3, 23, 24, 25] ih0; exact BT.go; exact ⟨_, by omega, _, _, _, _, _, _, _, by first | rfl | (simp (disch := omega) only [go_sem, ↓reduceIte, eq_self, and_self]; done), by omega, H.out⟩; done))
                · clear H
                  intro X hJ
                  obtain ⟨x3, x23, x24, x25, x39, x556000, x556001, x556002, x569000, x569001, x569002, x569003, x569004, x569005, qj2_3, rfl, hq, H⟩ := hJ
                  (cases qj2_3 with
                   | zero => (simp only [impl_ProgramOk.j2] at H; cases H)
                   | succ kqj2_3 =>
                    simp only [impl_ProgramOk.j2, List.length_append, List.length_cons, List.length_nil, Nat.zero_add, beq_dec, bne_dec, Bool.or_eq_true, Bool.and_eq_true, Bool.not_eq_true', decide_eq_true_eq, decide_eq_false_iff_not, ite_or', ite_and', ite_not', ge_iff_le, gt_iff_lt] at H
                    repeat' first
                     | (with_reducible replace H := sBindA H (by assumption))
                     | (with_reducible replace H := sBindS H)
                     | (with_reducible replace H := sBind H); obtain ⟨t, hA, H⟩ := H
                     | (with_reducible replace H := sBool H); obtain ⟨c, H⟩ | ⟨c, H⟩ := H
                     | (with_reducible replace H := sEq H); obtain ⟨c, c', H⟩ | ⟨c, c', H⟩ := H
                     | (with_reducible replace H := sEqL H); obtain ⟨c, H⟩ | ⟨c, H⟩ := H
                     | (with_reducible replace H := sIte H); obtain ⟨c, H⟩ | ⟨c, H⟩ := H
                     | (with_reducible replace H := sAnd H); obtain ⟨c, H⟩ | ⟨c, H⟩ := H
                     | (with_reducible replace H := sOr H); obtain ⟨c, H⟩ | ⟨c, H⟩ := H
                    all_goals first
                     | cases H
                     | replace H := Hold.mk H
                    all_goals repeat (first
                     | apply Ok.seq
                     | apply Ok.skip
                     | (apply Ok.rN [0, 1, 2, 3, 4, 5, 7, 9, 17, 23, 24, 25, 26, 39, 41, 42, 43, 44, 56, 57, 58, 59, 65] hP hn hx; exact BR.go; exact BV.go)
                     | (apply Ok.gS)
                     | (apply Ok.cn; exact BS.go)
                     | apply Ok.block
                     | apply Ok.inBlock
                     | (apply Ok.ex; exact BR.go)
                     | (apply goE.e [0, 1, 2, 3, 4, 5, 7, 9, 17, 23, 24, 25, 26, 39, 41, 42, 43, 44, 56, 57, 58, 59, 65] hP hn hx; exact BR.go; exact BV.go)
                     | (apply goE.n hP hn hx; exact BR.go; exact BJ.go; exact BU.go)
                     | (apply goE.q; exact BR.go; exact BG.go; exact BW.go)
                     | (apply goQ.t hP; exact BR.go; exact BR.go; exact BS.go)
                     | (apply goQ.f hn hx; exact BR.go; exact BR.go; exact BE.go)
                     | (apply goK.k hP hn hx; exact impl_isBlock.link _ _ _ _ _ (by assumption); exact BS.go)
                     | (apply goK.k hP hn hx; exact impl_NodeOk.link _ _ _ _ _ _ (by assumption); exact BS.go)
                     | (apply goK.k hP hn hx; exact impl_DeepOf.link _ _ _ _ _ _ (by assumption); exact BS.go)
                     | (apply goK.k hP hn hx; exact impl_countsOk.link _ _ _ _ _ (by assumption); exact BS.go)
                     | (apply goK.k hP hn hx; exact impl_namesIn.link _ _ _ _ _ (by assumption); exact BS.go)
                     | (apply goK.k hP hn hx; exact impl_bodies.link _ _ _ _ _ (by assumption); exact BS.go)
                     | (apply goK.k hP hn hx; exact slices_ContainsFunc_string_string_impl_ProgramOk_1.link _ _ _ (by assumption); exact BS.go)
                     | (apply goK.k hP hn hx; exact slices_ContainsFunc_int_int_impl_ProgramOk_2.link _ _ _ (by assumption); exact BS.go)
                     | (apply Ok.bk #[.tmp 2] hC.out hP hx hF; exact BR.go; exact BF.go; exact BF.go; exact BF.go; exact BM.go; exact BR.go; exact BR.go; exact BR.go; exact B1.go; exact BR.go)
                     | (apply Ok.ag [1, 3, 23, 24, 25] ih0; exact BT.go; exact ⟨_, by omega, _, _, _, _, _, _, _, by first | rfl | (simp (disch := omega) only [go_sem, ↓reduceIte, eq_self, and_self]; done), by omega, H.out⟩; done)
                     | (apply Ok.lq [1, 3, 23, 24, 25, 41, 42, 43] (fun q X => ∃ x3, ∃ x23, ∃ x24, ∃ x25, ∃ x41, ∃ x42, ∃ x43, ∃ x556000, ∃ x556001, ∃ x556002, X = ⟨[(1, .pl 0 none 0), (3, .bor 1 none 0 1 false), (23, .dat false [.sl none 6 (List.flatMap e77 x23)]), (24, .dat false [.sc (.int .i64 x24)]), (25, .dat false [.sc (.int .i64 x25)]), (41, .dat false [.sl none 1 (List.flatMap eI x41)]), (42, .dat false [.sc (.int .i64 x42)]), (43, .dat false [.sc (.int .i64 x43)])], [(0, .mem [.sl none 6 (List.flatMap e77 x556000), .sl none 4 (List.flatMap e106 x556001), .sl none 4 (List.flatMap e103 x556002)]), (1, .vir [.sl (some 0) 1 (List.flatMap eI x3)])]⟩ ∧ q ≤ kqj2_3 ∧ impl_ProgramOk.l1 q x3 x23 x24 x25 x41 x42 x43 x556000 x556001 x556002 = some r); exact BT.go; exact ⟨_, _, _, _, _, _, _, _, _, _, _, by first | rfl | (simp (disch := omega) only [go_sem, ↓reduceIte, eq_self, and_self]; done), by omega, H.out⟩))
                    all_goals intro q1_4 X hJ ih1
                    all_goals clear H
                    all_goals obtain ⟨x3, x23, x24, x25, x41, x42, x43, x556000, x556001, x556002, rfl, hq, H⟩ := hJ
                    all_goals (cases q1_4 with
                     | zero => (simp only [impl_ProgramOk.l1] at H; cases H)
                     | succ kq1_4 =>
                      simp only [impl_ProgramOk.l1, List.length_append, List.length_cons, List.length_nil, Nat.zero_add, beq_dec, bne_dec, Bool.or_eq_true, Bool.and_eq_true, Bool.not_eq_true', decide_eq_true_eq, decide_eq_false_iff_not, ite_or', ite_and', ite_not', ge_iff_le, gt_iff_lt] at H
                      repeat' first
                       | (with_reducible replace H := sBindA H (by assumption))
                       | (with_reducible replace H := sBindS H)
                       | (with_reducible replace H := sBind H); obtain ⟨t, hA, H⟩ := H
                       | (with_reducible replace H := sBool H); obtain ⟨c, H⟩ | ⟨c, H⟩ := H
                       | (with_reducible replace H := sEq H); obtain ⟨c, c', H⟩ | ⟨c, c', H⟩ := H
                       | (with_reducible replace H := sEqL H); obtain ⟨c, H⟩ | ⟨c, H⟩ := H
                       | (with_reducible replace H := sIte H); obtain ⟨c, H⟩ | ⟨c, H⟩ := H
                       | (with_reducible replace H := sAnd H); obtain ⟨c, H⟩ | ⟨c, H⟩ := H
                       | (with_reducible replace H := sOr H); obtain ⟨c, H⟩ | ⟨c, H⟩ := H
                      all_goals first
                       | cases H
                       | (exfalso; clear H; omega)
                       | replace H := Hold.mk H
                      all_goals repeat (first
                       | apply Ok.seq
                       | apply Ok.skip
                       | (apply Ok.rN [0, 1, 2, 3, 4, 5, 7, 9, 17, 23, 24, 25, 26, 39, 41, 42, 43, 44, 56, 57, 58, 59, 65] hP hn hx; exact BR.go; exact BV.go)
                       | (apply Ok.gS)
                       | (apply Ok.cn; exact BS.go)
                       | apply Ok.block
                       | apply Ok.inBlock
                       | (apply Ok.ex; exact BR.go)
                       | (apply goE.e [0, 1, 2, 3, 4, 5, 7, 9, 17, 23, 24, 25, 26, 39, 41, 42, 43, 44, 56, 57, 58, 59, 65] hP hn hx; exact BR.go; exact BV.go)
                       | (apply goE.n hP hn hx; exact BR.go; exact BJ.go; exact BU.go)
                       | (apply goE.q; exact BR.go; exact BG.go; exact BW.go)
                       | (apply goQ.t hP; exact BR.go; exact BR.go; exact BS.go)
                       | (apply goQ.f hn hx; exact BR.go; exact BR.go; exact BE.go)
                       | (apply goK.k hP hn hx; exact impl_isBlock.link _ _ _ _ _ (by assumption); exact BS.go)
                       | (apply goK.k hP hn hx; exact impl_NodeOk.link _ _ _ _ _ _ (by assumption); exact BS.go)
                       | (apply goK.k hP hn hx; exact impl_DeepOf.link _ _ _ _ _ _ (by assumption); exact BS.go)
                       | (apply goK.k hP hn hx; exact impl_countsOk.link _ _ _ _ _ (by assumption); exact BS.go)
                       | (apply goK.k hP hn hx; exact impl_namesIn.link _ _ _ _ _ (by assumption); exact BS.go)
                       | (apply goK.k hP hn hx; exact impl_bodies.link _ _ _ _ _ (by assumption); exact BS.go)
                       | (apply goK.k hP hn hx; exact slices_ContainsFunc_string_string_impl_ProgramOk_1.link _ _ _ (by assumption); exact BS.go)
                       | (apply goK.k hP hn hx; exact slices_ContainsFunc_int_int_impl_ProgramOk_2.link _ _ _ (by assumption); exact BS.go)
                       | (apply Ok.bk #[.tmp 2] hC.out hP hx hF; exact BR.go; exact BF.go; exact BF.go; exact BF.go; exact BM.go; exact BR.go; exact BR.go; exact BR.go; exact B1.go; exact BR.go)
                       | (apply Ok.ag [1, 3, 23, 24, 25] ih0; exact BT.go; exact ⟨_, by omega, _, _, _, _, _, _, _, by first | rfl | (simp (disch := omega) only [go_sem, ↓reduceIte, eq_self, and_self]; done), by omega, H.out⟩; done)
                       | (apply Ok.ag [1, 3, 23, 24, 25, 41, 42, 43] ih1; exact BT.go; exact ⟨_, by omega, _, _, _, _, _, _, _, _, _, _, by first | rfl | (simp (disch := omega) only [go_sem, ↓reduceIte, eq_self, and_self]; done), by omega, H.out⟩; done)))))
             · (try simp only [List.length_append, List.length_cons, List.length_nil, Nat.zero_add, beq_dec, bne_dec, Bool.or_eq_true, Bool.and_eq_true, Bool.not_eq_true', decide_eq_true_eq, decide_eq_false_iff_not, ite_or', ite_and', ite_not', ge_iff_le, gt_iff_lt] at H)
               repeat' first
                | (with_reducible replace H := sBindA H (by assumption))
                | (with_reducible replace H := sBindS H)
                | (with_reducible replace H := sBind H); obtain ⟨t, hA, H⟩ := H
                | (with_reducible replace H := sBool H); obtain ⟨c, H⟩ | ⟨c, H⟩ := H
                | (with_reducible replace H := sEq H); obtain ⟨c, c', H⟩ | ⟨c, c', H⟩ := H
                | (with_reducible replace H := sEqL H); obtain ⟨c, H⟩ | ⟨c, H⟩ := H
                | (with_reducible replace H := sIte H); obtain ⟨c, H⟩ | ⟨c, H⟩ := H
                | (with_reducible replace H := sAnd H); obtain ⟨c, H⟩ | ⟨c, H⟩ := H
                | (with_reducible replace H := sOr H); obtain ⟨c, H⟩ | ⟨c, H⟩ := H
               all_goals cases H
               all_goals (replace H0 := Hold.mk H0; have H := H0; clear H0)
               all_goals (
                cases H.out))
          · (try simp only [List.length_append, List.length_cons, List.length_nil, Nat.zero_add, beq_dec, bne_dec, Bool.or_eq_true, Bool.and_eq_true, Bool.not_eq_true', decide_eq_true_eq, decide_eq_false_iff_not, ite_or', ite_and', ite_not', ge_iff_le, gt_iff_lt] at H)
            repeat' first
             | (with_reducible replace H := sBindA H (by assumption))
             | (with_reducible replace H := sBindS H)
             | (with_reducible replace H := sBind H); obtain ⟨t, hA, H⟩ := H
             | (with_reducible replace H := sBool H); obtain ⟨c, H⟩ | ⟨c, H⟩ := H
             | (with_reducible replace H := sEq H); obtain ⟨c, c', H⟩ | ⟨c, c', H⟩ := H
             | (with_reducible replace H := sEqL H); obtain ⟨c, H⟩ | ⟨c, H⟩ := H
             | (with_reducible replace H := sIte H); obtain ⟨c, H⟩ | ⟨c, H⟩ := H
             | (with_reducible replace H := sAnd H); obtain ⟨c, H⟩ | ⟨c, H⟩ := H
             | (with_reducible replace H := sOr H); obtain ⟨c, H⟩ | ⟨c, H⟩ := H
            all_goals cases H
            all_goals (replace H0 := Hold.mk H0; have H := H0; clear H0)
            all_goals (
             cases H.out))
       · (try simp only [List.length_append, List.length_cons, List.length_nil, Nat.zero_add, beq_dec, bne_dec, Bool.or_eq_true, Bool.and_eq_true, Bool.not_eq_true', decide_eq_true_eq, decide_eq_false_iff_not, ite_or', ite_and', ite_not', ge_iff_le, gt_iff_lt] at H)
         repeat' first
          | (with_reducible replace H := sBindA H (by assumption))
          | (with_reducible replace H := sBindS H)
          | (with_reducible replace H := sBind H); obtain ⟨t, hA, H⟩ := H
          | (with_reducible replace H := sBool H); obtain ⟨c, H⟩ | ⟨c, H⟩ := H
          | (with_reducible replace H := sEq H); obtain ⟨c, c', H⟩ | ⟨c, c', H⟩ := H
          | (with_reducible replace H := sEqL H); obtain ⟨c, H⟩ | ⟨c, H⟩ := H
          | (with_reducible replace H := sIte H); obtain ⟨c, H⟩ | ⟨c, H⟩ := H
          | (with_reducible replace H := sAnd H); obtain ⟨c, H⟩ | ⟨c, H⟩ := H
          | (with_reducible replace H := sOr H); obtain ⟨c, H⟩ | ⟨c, H⟩ := H
         all_goals cases H
         all_goals (replace H0 := Hold.mk H0; have H := H0; clear H0)
         all_goals (
          replace H := H.out
          (try simp only [List.length_append, List.length_cons, List.length_nil, Nat.zero_add, beq_dec, bne_dec, Bool.or_eq_true, Bool.and_eq_true, Bool.not_eq_true', decide_eq_true_eq, decide_eq_false_iff_not, ite_or', ite_and', ite_not', ge_iff_le, gt_iff_lt] at H)
          repeat' first
           | (with_reducible replace H := sBindA H (by assumption))
           | (with_reducible replace H := sBindS H)
           | (with_reducible replace H := sBind H); obtain ⟨t, hA, H⟩ := H
           | (with_reducible replace H := sBool H); obtain ⟨c, H⟩ | ⟨c, H⟩ := H
           | (with_reducible replace H := sEq H); obtain ⟨c, c', H⟩ | ⟨c, c', H⟩ := H
           | (with_reducible replace H := sEqL H); obtain ⟨c, H⟩ | ⟨c, H⟩ := H
           | (with_reducible replace H := sIte H); obtain ⟨c, H⟩ | ⟨c, H⟩ := H
           | (with_reducible replace H := sAnd H); obtain ⟨c, H⟩ | ⟨c, H⟩ := H
           | (with_reducible replace H := sOr H); obtain ⟨c, H⟩ | ⟨c, H⟩ := H
          all_goals first
           | cases H
           | replace H := Hold.mk H
          all_goals repeat (first
           | apply Ok.seq
           | apply Ok.skip
           | (apply Ok.rN [0, 1, 2, 3, 4, 5, 7, 9, 17, 23, 24, 25, 26, 39, 41, 42, 43, 44, 56, 57, 58, 59, 65] hP hn hx; exact BR.go; exact BV.go)
           | (apply Ok.gS)
           | (apply Ok.cn; exact BS.go)
           | apply Ok.block
           | apply Ok.inBlock
           | (apply Ok.ex; exact BR.go)
           | (apply goE.e [0, 1, 2, 3, 4, 5, 7, 9, 17, 23, 24, 25, 26, 39, 41, 42, 43, 44, 56, 57, 58, 59, 65] hP hn hx; exact BR.go; exact BV.go)
           | (apply goE.n hP hn hx; exact BR.go; exact BJ.go; exact BU.go)
           | (apply goE.q; exact BR.go; exact BG.go; exact BW.go)
           | (apply goQ.t hP; exact BR.go; exact BR.go; exact BS.go)
           | (apply goQ.f hn hx; exact BR.go; exact BR.go; exact BE.go)
           | (apply goK.k hP hn hx; exact impl_isBlock.link _ _ _ _ _ (by assumption); exact BS.go)
           | (apply goK.k hP hn hx; exact impl_NodeOk.link _ _ _ _ _ _ (by assumption); exact BS.go)
           | (apply goK.k hP hn hx; exact impl_DeepOf.link _ _ _ _ _ _ (by assumption); exact BS.go)
           | (apply goK.k hP hn hx; exact impl_countsOk.link _ _ _ _ _ (by assumption); exact BS.go)
           | (apply goK.k hP hn hx; exact impl_namesIn.link _ _ _ _ _ (by assumption); exact BS.go)
           | (apply goK.k hP hn hx; exact impl_bodies.link _ _ _ _ _ (by assumption); exact BS.go)
           | (apply goK.k hP hn hx; exact slices_ContainsFunc_string_string_impl_ProgramOk_1.link _ _ _ (by assumption); exact BS.go)
           | (apply goK.k hP hn hx; exact slices_ContainsFunc_int_int_impl_ProgramOk_2.link _ _ _ (by assumption); exact BS.go)
           | (apply Ok.bk #[.tmp 2] hC.out hP hx hF; exact BR.go; exact BF.go; exact BF.go; exact BF.go; exact BM.go; exact BR.go; exact BR.go; exact BR.go; exact B1.go; exact BR.go)
           | (apply Ok.ag [1, 3, 23, 24, 25] ih0; exact BT.go; exact ⟨_, by omega, _, _, _, _, _, _, _, by first | rfl | (simp (disch := omega) only [go_sem, ↓reduceIte, eq_self, and_self]; done), by omega, H.out⟩; done)
           | (apply Ok.lq [1, 3, 56, 57, 58] (fun q X => ∃ x3, ∃ x56, ∃ x57, ∃ x58, ∃ x556000, ∃ x556001, ∃ x556002, X = ⟨[(1, .pl 0 none 0), (3, .bor 1 none 0 1 false), (56, .bor 2 none 0 1 false), (57, .dat false [.sc (.int .i64 x57)]), (58, .dat false [.sc (.int .i64 x58)])], [(0, .mem [.sl none 6 (List.flatMap e77 x556000), .sl none 4 (List.flatMap e106 x556001), .sl none 4 (List.flatMap e103 x556002)]), (1, .vir [.sl (some 0) 1 (List.flatMap eI x3)]), (2, .vir [.sl (some 0) 1 (List.flatMap eI x56)])]⟩ ∧ q ≤ kq0_2 ∧ impl_ProgramOk.l2 q x3 x56 x57 x58 x556000 x556001 x556002 = some r); exact BT.go; exact ⟨_, _, _, _, _, _, _, _, by first | rfl | (simp (disch := omega) only [go_sem, ↓reduceIte, eq_self, and_self]; done), by omega, H.out⟩))
          all_goals intro q2_5 X hJ ih2
          all_goals clear H
          all_goals obtain ⟨x3, x56, x57, x58, x556000, x556001, x556002, rfl, hq, H⟩ := hJ
          all_goals (cases q2_5 with
           | zero => (simp only [impl_ProgramOk.l2] at H; cases H)
           | succ kq2_5 =>
            simp only [impl_ProgramOk.l2, List.length_append, List.length_cons, List.length_nil, Nat.zero_add, beq_dec, bne_dec, Bool.or_eq_true, Bool.and_eq_true, Bool.not_eq_true', decide_eq_true_eq, decide_eq_false_iff_not, ite_or', ite_and', ite_not', ge_iff_le, gt_iff_lt] at H
            repeat' first
             | (with_reducible replace H := sBindA H (by assumption))
             | (with_reducible replace H := sBindS H)
             | (with_reducible replace H := sBind H); obtain ⟨t, hA, H⟩ := H
             | (with_reducible replace H := sBool H); obtain ⟨c, H⟩ | ⟨c, H⟩ := H
             | (with_reducible replace H := sEq H); obtain ⟨c, c', H⟩ | ⟨c, c', H⟩ := H
             | (with_reducible replace H := sEqL H); obtain ⟨c, H⟩ | ⟨c, H⟩ := H
             | (with_reducible replace H := sIte H); obtain ⟨c, H⟩ | ⟨c, H⟩ := H
             | (with_reducible replace H := sAnd H); obtain ⟨c, H⟩ | ⟨c, H⟩ := H
             | (with_reducible replace H := sOr H); obtain ⟨c, H⟩ | ⟨c, H⟩ := H
            all_goals first
             | cases H
             | (exfalso; clear H; omega)
             | replace H := Hold.mk H
            all_goals repeat (first
             | apply Ok.seq
             | apply Ok.skip
             | (apply Ok.rN [0, 1, 2, 3, 4, 5, 7, 9, 17, 23, 24, 25, 26, 39, 41, 42, 43, 44, 56, 57, 58, 59, 65] hP hn hx; exact BR.go; exact BV.go)
             | (apply Ok.gS)
             | (apply Ok.cn; exact BS.go)
             | apply Ok.block
             | apply Ok.inBlock
             | (apply Ok.ex; exact BR.go)
             | (apply goE.e [0, 1, 2, 3, 4, 5, 7, 9, 17, 23, 24, 25, 26, 39, 41, 42, 43, 44, 56, 57, 58, 59, 65] hP hn hx; exact BR.go; exact BV.go)
             | (apply goE.n hP hn hx; exact BR.go; exact BJ.go; exact BU.go)
             | (apply goE.q; exact BR.go; exact BG.go; exact BW.go)
             | (apply goQ.t hP; exact BR.go; exact BR.go; exact BS.go)
             | (apply goQ.f hn hx; exact BR.go; exact BR.go; exact BE.go)
             | (apply goK.k hP hn hx; exact impl_isBlock.link _ _ _ _ _ (by assumption); exact BS.go)
             | (apply goK.k hP hn hx; exact impl_NodeOk.link _ _ _ _ _ _ (by assumption); exact BS.go)
             | (apply goK.k hP hn hx; exact impl_DeepOf.link _ _ _ _ _ _ (by assumption); exact BS.go)
             | (apply goK.k hP hn hx; exact impl_countsOk.link _ _ _ _ _ (by assumption); exact BS.go)
             | (apply goK.k hP hn hx; exact impl_namesIn.link _ _ _ _ _ (by assumption); exact BS.go)
             | (apply goK.k hP hn hx; exact impl_bodies.link _ _ _ _ _ (by assumption); exact BS.go)
             | (apply goK.k hP hn hx; exact slices_ContainsFunc_string_string_impl_ProgramOk_1.link _ _ _ (by assumption); exact BS.go)
             | (apply goK.k hP hn hx; exact slices_ContainsFunc_int_int_impl_ProgramOk_2.link _ _ _ (by assumption); exact BS.go)
             | (apply Ok.bk #[.tmp 2] hC.out hP hx hF; exact BR.go; exact BF.go; exact BF.go; exact BF.go; exact BM.go; exact BR.go; exact BR.go; exact BR.go; exact B1.go; exact BR.go)
             | (apply Ok.ag [1, 3, 23, 24, 25] ih0; exact BT.go; exact ⟨_, by omega, _, _, _, _, _, _, _, by first | rfl | (simp (disch := omega) only [go_sem, ↓reduceIte, eq_self, and_self]; done), by omega, H.out⟩; done)
             | (apply Ok.ag [1, 3, 56, 57, 58] ih2; exact BT.go; exact ⟨_, by omega, _, _, _, _, _, _, _, by first | rfl | (simp (disch := omega) only [go_sem, ↓reduceIte, eq_self, and_self]; done), by omega, H.out⟩; done))))))
set_option maxHeartbeats 8000000 in
theorem laws_FnExactProgramOk.link (k : Nat) (l0_0 : List (S113)) (l0_1 : List (S117)) (l0_2 : List (S119)) (r : Bool) (H : laws_FnExactProgramOk.f k l0_0 l0_1 l0_2 = some r) : ACalls Try.prog 10 [.dat true [.sl none 6 (List.flatMap e113 l0_0), .sl none 4 (List.flatMap e117 l0_1), .sl none 4 (List.flatMap e119 l0_2)]] [(false, [.sc (.bool r)])] [.dat true [.sl none 6 (List.flatMap e113 l0_0), .sl none 4 (List.flatMap e117 l0_1), .sl none 4 (List.flatMap e119 l0_2)]] := by
 refine ACalls.enter Try.func10 (by kernel_rfl) rfl (by rw [Try.ntmps10]; exact Nat.le_of_ble_eq_true rfl) (fun C F hC hP hf hn hx => ?_)
 rw [Try.ntmps10] at hn
 have hF : Try.prog.funcs[C.fid]? = some Try.f10 := hf ▸ Try.func10
 replace hC := Hold.mk hC
 replace hx : C.fx = [] := hx
 simp only [entry, entE, enumM, rwA, rwC, Nat.reduceAdd] at ⊢
 simp only [laws_FnExactProgramOk.f, List.length_append, List.length_cons, List.length_nil, Nat.zero_add, beq_dec, bne_dec, Bool.or_eq_true, Bool.and_eq_true, Bool.not_eq_true', decide_eq_true_eq, decide_eq_false_iff_not, ite_or', ite_and', ite_not', ge_iff_le, gt_iff_lt] at H
 repeat' first
  | (with_reducible replace H := sBindA H (by assumption))
  | (with_reducible replace H := sBindS H)
  | (with_reducible replace H := sBind H); obtain ⟨t, hA, H⟩ := H
  | (with_reducible replace H := sBool H); obtain ⟨c, H⟩ | ⟨c, H⟩ := H
  | (with_reducible replace H := sEq H); obtain ⟨c, c', H⟩ | ⟨c, c', H⟩ := H
  | (with_reducible replace H := sEqL H); obtain ⟨c, H⟩ | ⟨c, H⟩ := H
  | (with_reducible replace H := sIte H); obtain ⟨c, H⟩ | ⟨c, H⟩ := H
  | (with_reducible replace H := sAnd H); obtain ⟨c, H⟩ | ⟨c, H⟩ := H
  | (with_reducible replace H := sOr H); obtain ⟨c, H⟩ | ⟨c, H⟩ := H
 all_goals first
  | cases H
  | replace H := Hold.mk H
 all_goals repeat (first
  | apply Ok.seq
  | apply Ok.skip
  | (apply Ok.rN [0, 1, 2, 3, 4, 5, 6, 11, 21, 26] hP hn hx; exact BR.go; exact BV.go)
  | (apply Ok.gS)
  | (apply Ok.cn; exact BS.go)
  | apply Ok.block
  | apply Ok.inBlock
  | (apply Ok.ex; exact BR.go)
  | (apply Ok.gD 10 (noneL [0, 1] ++ ((2, some [0]) :: ((3, some []) :: (noneL [4] ++ [])))) hP mo; exact BK.go)
  | (apply Ok.rD [0, 1, 2, 3, 4, 5, 6, 11, 21, 26] hP hn hx mo; exact BK.go; exact BX.go)
  | (apply goE.e [0, 1, 2, 3, 4, 5, 6, 11, 21, 26] hP hn hx; exact BR.go; exact BV.go)
  | (apply goE.n hP hn hx; exact BR.go; exact BJ.go; exact BU.go)
  | (apply goE.q; exact BR.go; exact BG.go; exact BW.go)
  | (apply goQ.t hP; exact BR.go; exact BR.go; exact BS.go)
  | (apply goQ.f hn hx; exact BR.go; exact BR.go; exact BE.go)
  | (apply goD.z [0, 1, 2, 3, 4, 5, 6, 11, 21, 26]; exact BT.go)
  | (apply goD.n hP hn hx; exact BN.go)
  | (apply goD.q; exact BR.go; exact BG.go; exact BW.go)
  | (apply goQD.t hP; exact BR.go; exact BR.go; exact BS.go)
  | (apply goQD.f hP hn hx; exact BR.go; exact BR.go; exact BE.go; exact BQ.go)
  | (apply goD.x hP hn hx; exact BR.go; exact BG.go; exact BR.go; exact BW.go; exact BS.go; exact BQ.go)
  | (apply goK.k hP hn hx; exact laws_szProgram.link _ _ _ _ _ _ (by assumption); exact BS.go)
  | (apply goKD.k hP hn hx; exact laws_szProgram.link _ _ _ _ _ _ (by assumption); exact BS.go; exact BQ.go)
  | (apply goK.k hP hn hx; exact laws_toProgram.link _ _ _ _ _ (by assumption); exact BS.go)
  | (apply goKD.k hP hn hx; exact laws_toProgram.link _ _ _ _ _ (by assumption); exact BS.go; exact BQ.go)
  | (apply goK.k hP hn hx; exact laws_eqProgram.link _ _ _ _ _ _ _ _ (by assumption); exact BS.go)
  | (apply goKD.k hP hn hx; exact laws_eqProgram.link _ _ _ _ _ _ _ _ (by assumption); exact BS.go; exact BQ.go)
  | (apply goK.k hP hn hx; exact spec_ProgramOk.link _ _ _ _ _ (by assumption); exact BS.go)
  | (apply goKD.k hP hn hx; exact spec_ProgramOk.link _ _ _ _ _ (by assumption); exact BS.go; exact BQ.go)
  | (apply goK.k hP hn hx; exact impl_ProgramOk.link _ _ _ _ _ (by assumption); exact BS.go)
  | (apply goKD.k hP hn hx; exact impl_ProgramOk.link _ _ _ _ _ (by assumption); exact BS.go; exact BQ.go)
  | (apply Ok.bk #[.tmp 2] hC.out hP hx hF; exact BR.go; exact BF.go; exact BF.go; exact BF.go; exact BM.go; exact BR.go; exact BR.go; exact BR.go; exact B1.go; exact BR.go))
end Go.Proofs.Ytmbkcbgbienjoaa.PFnExactProgramOk
