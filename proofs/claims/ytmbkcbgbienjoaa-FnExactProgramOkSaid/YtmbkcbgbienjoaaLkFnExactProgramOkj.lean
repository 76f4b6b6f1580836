/- Functions' walks: each computes what its plain form says. No condition. -/
import Derived.Test.YtmbkcbgbienjoaaLkFnExactProgramOkh
import Derived.Test.YtmbkcbgbienjoaaLkFnExactProgramOkf
import Derived.Test.YtmbkcbgbienjoaaLkFnExactProgramOki
open Go Go.Proofs Go.Proofs.Ytmbkcbgbienjoaa.Abs
namespace Go.Proofs.Ytmbkcbgbienjoaa.PFnExactProgramOk
open Go.RowKit Go.Proofs.YtmbkcbgbienjoaaW.PrintWords Go.Proofs.YtmbkcbgbienjoaaW.PrintLast Go.Proofs.YtmbkcbgbienjoaaW.PrintMore
set_option linter.unusedVariables false
set_option linter.unusedSimpArgs false
set_option maxRecDepth 100000
attribute [local irreducible] evK evQ evM evF evW evH goE goK goKD goQ goQD goD Ok ACalls
set_option maxHeartbeats 8000000 in
theorem impl_NodeOk.link (k : Nat) (l0_0 : List (S77)) (l0_1 : List (S106)) (l0_2 : List (S103)) (a1 : Int) (r : Bool) (H : impl_NodeOk.f k l0_0 l0_1 l0_2 a1 = some r) : ACalls Try.prog 36 [.dat true [.sl none 6 (List.flatMap e77 l0_0), .sl none 4 (List.flatMap e106 l0_1), .sl none 4 (List.flatMap e103 l0_2)], .dat false [.sc (.int .i64 a1)]] [(false, [.sc (.bool r)])] [.dat true [.sl none 6 (List.flatMap e77 l0_0), .sl none 4 (List.flatMap e106 l0_1), .sl none 4 (List.flatMap e103 l0_2)], .dat false [.sc (.int .i64 a1)]] := by
 refine ACalls.enter Try.func36 (by kernel_rfl) rfl (by rw [Try.ntmps36]; exact Nat.le_of_ble_eq_true rfl) (fun C F hC hP hf hn hx => ?_)
 rw [Try.ntmps36] at hn
 have hF : Try.prog.funcs[C.fid]? = some Try.f36 := hf ▸ Try.func36
 replace hC := Hold.mk hC
 replace hx : C.fx = [] := hx
 simp only [entry, entE, enumM, rwA, rwC, Nat.reduceAdd] at ⊢
 simp only [impl_NodeOk.f] at H
 replace H := Hold.mk H
 obtain ⟨t, hA, H⟩ := sBind H.out
 replace H := Hold.mk H
 obtain ⟨H, H0⟩ | ⟨H, H0⟩ := sIteU H.out
 · (try simp only [List.length_append, List.length_cons, List.length_nil, Nat.zero_add, beq_dec, bne_dec, Bool.or_eq_true, Bool.and_eq_true, Bool.not_eq_true', decide_eq_true_eq, decide_eq_false_iff_not, ite_or', ite_and', ite_not', ge_iff_le, gt_iff_lt] at H)
   repeat' first
    | (with_reducible replace H := sBindA H (by assumption))
    | (with_reducible replace H := sBindS H)
    | (with_reducible replace H := sBind H); obtain ⟨t, hA, H⟩ := H
    | (with_reducible replace H := sBool H); obtain ⟨c, H⟩ | ⟨c, H⟩ := H
    | (with_reducible replace H := sEq H); obtain ⟨c, c', H⟩ | ⟨c, c', H⟩ := H
    | (with_reducible replace H := sEqL H); obtain ⟨c, H⟩ | ⟨c, H⟩ := H
    | (with_reducible replace H := sIte H); obtain ⟨c, H⟩ | ⟨c, H⟩ := H
    | (with_reducible replace H := sAnd H); obtain ⟨c, H⟩ | ⟨c, H⟩ := H
    | (with_reducible replace H := sOr H); obtain ⟨c, H⟩ | ⟨c, H⟩ := H
   all_goals cases H
   all_goals (replace H0 := Hold.mk H0; have H := H0; clear H0)
   all_goals (
    obtain ⟨H, H0⟩ | ⟨H, H0⟩ := sIteU H.out
    · (try simp only [List.length_append, List.length_cons, List.length_nil, Nat.zero_add, beq_dec, bne_dec, Bool.or_eq_true, Bool.and_eq_true, Bool.not_eq_true', decide_eq_true_eq, decide_eq_false_iff_not, ite_or', ite_and', ite_not', ge_iff_le, gt_iff_lt] at H)
      repeat' first
       | (with_reducible replace H := sBindA H (by assumption))
       | (with_reducible replace H := sBindS H)
       | (with_reducible replace H := sBind H); obtain ⟨t, hA, H⟩ := H
       | (with_reducible replace H := sBool H); obtain ⟨c, H⟩ | ⟨c, H⟩ := H
       | (with_reducible replace H := sEq H); obtain ⟨c, c', H⟩ | ⟨c, c', H⟩ := H
       | (with_reducible replace H := sEqL H); obtain ⟨c, H⟩ | ⟨c, H⟩ := H
       | (with_reducible replace H := sIte H); obtain ⟨c, H⟩ | ⟨c, H⟩ := H
       | (with_reducible replace H := sAnd H); obtain ⟨c, H⟩ | ⟨c, H⟩ := H
       | (with_reducible replace H := sOr H); obtain ⟨c, H⟩ | ⟨c, H⟩ := H
      all_goals cases H
      all_goals (replace H0 := Hold.mk H0; have H := H0; clear H0)
      all_goals (
       obtain ⟨H, H0⟩ | ⟨H, H0⟩ := sIteU H.out
       · (try simp only [List.length_append, List.length_cons, List.length_nil, Nat.zero_add, beq_dec, bne_dec, Bool.or_eq_true, Bool.and_eq_true, Bool.not_eq_true', decide_eq_true_eq, decide_eq_false_iff_not, ite_or', ite_and', ite_not', ge_iff_le, gt_iff_lt] at H)
         repeat' first
          | (with_reducible replace H := sBindA H (by assumption))
          | (with_reducible replace H := sBindS H)
          | (with_reducible replace H := sBind H); obtain ⟨t, hA, H⟩ := H
          | (with_reducible replace H := sBool H); obtain ⟨c, H⟩ | ⟨c, H⟩ := H
          | (with_reducible replace H := sEq H); obtain ⟨c, c', H⟩ | ⟨c, c', H⟩ := H
          | (with_reducible replace H := sEqL H); obtain ⟨c, H⟩ | ⟨c, H⟩ := H
          | (with_reducible replace H := sIte H); obtain ⟨c, H⟩ | ⟨c, H⟩ := H
          | (with_reducible replace H := sAnd H); obtain ⟨c, H⟩ | ⟨c, H⟩ := H
          | (with_reducible replace H := sOr H); obtain ⟨c, H⟩ | ⟨c, H⟩ := H
         all_goals cases H
         all_goals (replace H0 := Hold.mk H0; have H := H0; clear H0)
         all_goals (
          repeat (first
           | refine Ok.cutR 4 (fun X => ∃ x1, ∃ x26, ∃ x473000, ∃ x473001, ∃ x473002, ∃ x476000, ∃ x476001, ∃ x476002, ∃ x476003, ∃ x476004, ∃ x476005, ∃ q, X = ⟨[(1, .dat false [.sc (.int .i64 x1)]), (2, .pl 0 none 0), (5, .pl 1 none 0), (26, .dat false [.sc (.bool x26)])], [(0, .mem [.sl none 6 (List.flatMap e77 x473000), .sl none 4 (List.flatMap e106 x473001), .sl none 4 (List.flatMap e103 x473002)]), (1, .mem [.sc (.int .i64 x476000), .sc (.int .i64 x476001), .sc (.string x476002), .sc (.string x476003), .sc (.string x476004), .sl none 1 (List.flatMap eI x476005)])]⟩ ∧ q ≤ k ∧ impl_NodeOk.j0 q x1 x26 x473000 x473001 x473002 x476000 x476001 x476002 x476003 x476004 x476005 = some r) ?_ ?_
           | apply Ok.seq
           | apply Ok.skip
           | (apply Ok.rN [0, 1, 2, 4, 5, 6, 7, 11, 26, 28, 29, 30, 31, 47] hP hn hx; exact BR.go; exact BV.go)
           | (apply Ok.gS)
           | (apply Ok.cn; exact BS.go)
           | apply Ok.block
           | apply Ok.inBlock
           | (apply Ok.ex; exact BR.go)
           | (apply goE.e [0, 1, 2, 4, 5, 6, 7, 11, 26, 28, 29, 30, 31, 47] hP hn hx; exact BR.go; exact BV.go)
           | (apply goE.n hP hn hx; exact BR.go; exact BJ.go; exact BU.go)
           | (apply goE.q; exact BR.go; exact BG.go; exact BW.go)
           | (apply goQ.t hP; exact BR.go; exact BR.go; exact BS.go)
           | (apply goQ.f hn hx; exact BR.go; exact BR.go; exact BE.go)
           | (apply goK.k hP hn hx; exact impl_within.link _ _ _ _ (by assumption); exact BS.go)
           | (apply goK.k hP hn hx; exact impl_isNode.link _ _ _ _ _ (by assumption); exact BS.go)
           | (apply goK.k hP hn hx; exact slices_Contains_int_int.link _ _ _ _ (by assumption); exact BS.go)
           | (apply goK.k hP hn hx; exact impl_kidsOk.link _ _ _ _ _ _ _ _ _ _ _ (by assumption); exact BS.go)
           | (apply goK.k hP hn hx; exact impl_namesOk.link _ _ _ _ _ _ _ _ (by assumption); exact BS.go)
           | (apply Ok.bk #[.tmp 4] hC.out hP hx hF; exact BR.go; exact BF.go; exact BF.go; exact BF.go; exact BM.go; exact BR.go; exact BR.go; exact BR.go; exact B1.go; exact BR.go))
          · intro hjj0
            replace H := H.out
            (try simp only [List.length_append, List.length_cons, List.length_nil, Nat.zero_add, beq_dec, bne_dec, Bool.or_eq_true, Bool.and_eq_true, Bool.not_eq_true', decide_eq_true_eq, decide_eq_false_iff_not, ite_or', ite_and', ite_not', ge_iff_le, gt_iff_lt] at H)
            repeat' first
             | (with_reducible replace H := sBindA H (by assumption))
             | (with_reducible replace H := sBindS H)
             | (with_reducible replace H := sBind H); obtain ⟨t, hA, H⟩ := H
             | (with_reducible replace H := sBool H); obtain ⟨c, H⟩ | ⟨c, H⟩ := H
             | (with_reducible replace H := sEq H); obtain ⟨c, c', H⟩ | ⟨c, c', H⟩ := H
             | (with_reducible replace H := sEqL H); obtain ⟨c, H⟩ | ⟨c, H⟩ := H
             | (with_reducible replace H := sIte H); obtain ⟨c, H⟩ | ⟨c, H⟩ := H
             | (with_reducible replace H := sAnd H); obtain ⟨c, H⟩ | ⟨c, H⟩ := H
             | (with_reducible replace H := sOr H); obtain ⟨c, H⟩ | ⟨c, H⟩ := H
            all_goals first
             | cases H
             | replace H := Hold.mk H
            all_goals repeat (first
             | (apply Ok.mt [1, 2, 5, 26] hjj0; exact BT.go; exact ⟨_, _, _, _, _, _, _, _, _, _, _, k, by first | rfl | (simp (disch := omega) only [go_sem, ↓reduceIte, eq_self, and_self]; done), by omega, by first | exact H.out | (have h0 := H.out; simp only [*, go_sem, ↓reduceIte, reduceCtorEq] at h0 ⊢; exact h0)⟩; done)
             | apply Ok.seq
             | apply Ok.skip
             | (apply Ok.rN [0, 1, 2, 4, 5, 6, 7, 11, 26, 28, 29, 30, 31, 47] hP hn hx; exact BR.go; exact BV.go)
             | (apply Ok.gS)
             | (apply Ok.cn; exact BS.go)
             | apply Ok.block
             | apply Ok.inBlock
             | (apply Ok.ex; exact BR.go)
             | (apply goE.e [0, 1, 2, 4, 5, 6, 7, 11, 26, 28, 29, 30, 31, 47] hP hn hx; exact BR.go; exact BV.go)
             | (apply goE.n hP hn hx; exact BR.go; exact BJ.go; exact BU.go)
             | (apply goE.q; exact BR.go; exact BG.go; exact BW.go)
             | (apply goQ.t hP; exact BR.go; exact BR.go; exact BS.go)
             | (apply goQ.f hn hx; exact BR.go; exact BR.go; exact BE.go)
             | (apply goK.k hP hn hx; exact impl_within.link _ _ _ _ (by assumption); exact BS.go)
             | (apply goK.k hP hn hx; exact impl_isNode.link _ _ _ _ _ (by assumption); exact BS.go)
             | (apply goK.k hP hn hx; exact slices_Contains_int_int.link _ _ _ _ (by assumption); exact BS.go)
             | (apply goK.k hP hn hx; exact impl_kidsOk.link _ _ _ _ _ _ _ _ _ _ _ (by assumption); exact BS.go)
             | (apply goK.k hP hn hx; exact impl_namesOk.link _ _ _ _ _ _ _ _ (by assumption); exact BS.go)
             | (apply Ok.bk #[.tmp 4] hC.out hP hx hF; exact BR.go; exact BF.go; exact BF.go; exact BF.go; exact BM.go; exact BR.go; exact BR.go; exact BR.go; exact B1.go; exact BR.go))
          · clear H
            intro X hJ
            obtain ⟨x1, x26, x473000, x473001, x473002, x476000, x476001, x476002, x476003, x476004, x476005, qj0_1, rfl, hq, H⟩ := hJ
            (cases qj0_1 with
             | zero => (simp only [impl_NodeOk.j0] at H; cases H)
             | succ kqj0_1 =>
              simp only [impl_NodeOk.j0, List.length_append, List.length_cons, List.length_nil, Nat.zero_add, beq_dec, bne_dec, Bool.or_eq_true, Bool.and_eq_true, Bool.not_eq_true', decide_eq_true_eq, decide_eq_false_iff_not, ite_or', ite_and', ite_not', ge_iff_le, gt_iff_lt] at H
              repeat' first
               | (with_reducible replace H := sBindA H (by assumption))
               | (with_reducible replace H := sBindS H)
               | (with_reducible replace H := sBind H); obtain ⟨t, hA, H⟩ := H
               | (with_reducible replace H := sBool H); obtain ⟨c, H⟩ | ⟨c, H⟩ := H
               | (with_reducible replace H := sEq H); obtain ⟨c, c', H⟩ | ⟨c, c', H⟩ := H
               | (with_reducible replace H := sEqL H); obtain ⟨c, H⟩ | ⟨c, H⟩ := H
               | (with_reducible replace H := sIte H); obtain ⟨c, H⟩ | ⟨c, H⟩ := H
               | (with_reducible replace H := sAnd H); obtain ⟨c, H⟩ | ⟨c, H⟩ := H
               | (with_reducible replace H := sOr H); obtain ⟨c, H⟩ | ⟨c, H⟩ := H
              all_goals first
               | cases H
               | replace H := Hold.mk H
              all_goals repeat (first
               | apply Ok.seq
               | apply Ok.skip
               | (apply Ok.rN [0, 1, 2, 4, 5, 6, 7, 11, 26, 28, 29, 30, 31, 47] hP hn hx; exact BR.go; exact BV.go)
               | (apply Ok.gS)
               | (apply Ok.cn; exact BS.go)
               | apply Ok.block
               | apply Ok.inBlock
               | (apply Ok.ex; exact BR.go)
               | (apply goE.e [0, 1, 2, 4, 5, 6, 7, 11, 26, 28, 29, 30, 31, 47] hP hn hx; exact BR.go; exact BV.go)
               | (apply goE.n hP hn hx; exact BR.go; exact BJ.go; exact BU.go)
               | (apply goE.q; exact BR.go; exact BG.go; exact BW.go)
               | (apply goQ.t hP; exact BR.go; exact BR.go; exact BS.go)
               | (apply goQ.f hn hx; exact BR.go; exact BR.go; exact BE.go)
               | (apply goK.k hP hn hx; exact impl_within.link _ _ _ _ (by assumption); exact BS.go)
               | (apply goK.k hP hn hx; exact impl_isNode.link _ _ _ _ _ (by assumption); exact BS.go)
               | (apply goK.k hP hn hx; exact slices_Contains_int_int.link _ _ _ _ (by assumption); exact BS.go)
               | (apply goK.k hP hn hx; exact impl_kidsOk.link _ _ _ _ _ _ _ _ _ _ _ (by assumption); exact BS.go)
               | (apply goK.k hP hn hx; exact impl_namesOk.link _ _ _ _ _ _ _ _ (by assumption); exact BS.go)
               | (apply Ok.bk #[.tmp 4] hC.out hP hx hF; exact BR.go; exact BF.go; exact BF.go; exact BF.go; exact BM.go; exact BR.go; exact BR.go; exact BR.go; exact B1.go; exact BR.go)
               | (apply Ok.lq [1, 2, 5, 28, 29, 30] (fun q X => ∃ x1, ∃ x28, ∃ x29, ∃ x30, ∃ x473000, ∃ x473001, ∃ x473002, ∃ x476000, ∃ x476001, ∃ x476002, ∃ x476003, ∃ x476004, ∃ x476005, X = ⟨[(1, .dat false [.sc (.int .i64 x1)]), (2, .pl 0 none 0), (5, .pl 1 none 0), (28, .dat false [.sl none 1 (List.flatMap eI x28)]), (29, .dat false [.sc (.int .i64 x29)]), (30, .dat false [.sc (.int .i64 x30)])], [(0, .mem [.sl none 6 (List.flatMap e77 x473000), .sl none 4 (List.flatMap e106 x473001), .sl none 4 (List.flatMap e103 x473002)]), (1, .mem [.sc (.int .i64 x476000), .sc (.int .i64 x476001), .sc (.string x476002), .sc (.string x476003), .sc (.string x476004), .sl none 1 (List.flatMap eI x476005)])]⟩ ∧ q ≤ kqj0_1 ∧ impl_NodeOk.l0 q x1 x28 x29 x30 x473000 x473001 x473002 x476000 x476001 x476002 x476003 x476004 x476005 = some r); exact BT.go; exact ⟨_, _, _, _, _, _, _, _, _, _, _, _, _, _, by first | rfl | (simp (disch := omega) only [go_sem, ↓reduceIte, eq_self, and_self]; done), by omega, H.out⟩))
              all_goals intro q0_2 X hJ ih0
              all_goals clear H
              all_goals obtain ⟨x1, x28, x29, x30, x473000, x473001, x473002, x476000, x476001, x476002, x476003, x476004, x476005, rfl, hq, H⟩ := hJ
              all_goals (cases q0_2 with
               | zero => (simp only [impl_NodeOk.l0] at H; cases H)
               | succ kq0_2 =>
                simp only [impl_NodeOk.l0, List.length_append, List.length_cons, List.length_nil, Nat.zero_add, beq_dec, bne_dec, Bool.or_eq_true, Bool.and_eq_true, Bool.not_eq_true', decide_eq_true_eq, decide_eq_false_iff_not, ite_or', ite_and', ite_not', ge_iff_le, gt_iff_lt] at H
                repeat' first
                 | (with_reducible replace H := sBindA H (by assumption))
                 | (with_reducible replace H := sBindS H)
                 | (with_reducible replace H := sBind H); obtain ⟨t, hA, H⟩ := H
                 | (with_reducible replace H := sBool H); obtain ⟨c, H⟩ | ⟨c, H⟩ := H
                 | (with_reducible replace H := sEq H); obtain ⟨c, c', H⟩ | ⟨c, c', H⟩ := H
                 | (with_reducible replace H := sEqL H); obtain ⟨c, H⟩ | ⟨c, H⟩ := H
                 | (with_reducible replace H := sIte H); obtain ⟨c, H⟩ | ⟨c, H⟩ := H
                 | (with_reducible replace H := sAnd H); obtain ⟨c, H⟩ | ⟨c, H⟩ := H
                 | (with_reducible replace H := sOr H); obtain ⟨c, H⟩ | ⟨c, H⟩ := H
                all_goals first
                 | cases H
                 | (exfalso; clear H; omega)
                 | replace H := Hold.mk H
                all_goals repeat (first
                 | apply Ok.seq
                 | apply Ok.skip
                 | (apply Ok.rN [0, 1, 2, 4, 5, 6, 7, 11, 26, 28, 29, 30, 31, 47] hP hn hx; exact BR.go; exact BV.go)
                 | (apply Ok.gS)
                 | (apply Ok.cn; exact BS.go)
                 | apply Ok.block
                 | apply Ok.inBlock
                 | (apply Ok.ex; exact BR.go)
                 | (apply goE.e [0, 1, 2, 4, 5, 6, 7, 11, 26, 28, 29, 30, 31, 47] hP hn hx; exact BR.go; exact BV.go)
                 | (apply goE.n hP hn hx; exact BR.go; exact BJ.go; exact BU.go)
                 | (apply goE.q; exact BR.go; exact BG.go; exact BW.go)
                 | (apply goQ.t hP; exact BR.go; exact BR.go; exact BS.go)
                 | (apply goQ.f hn hx; exact BR.go; exact BR.go; exact BE.go)
                 | (apply goK.k hP hn hx; exact impl_within.link _ _ _ _ (by assumption); exact BS.go)
                 | (apply goK.k hP hn hx; exact impl_isNode.link _ _ _ _ _ (by assumption); exact BS.go)
                 | (apply goK.k hP hn hx; exact slices_Contains_int_int.link _ _ _ _ (by assumption); exact BS.go)
                 | (apply goK.k hP hn hx; exact impl_kidsOk.link _ _ _ _ _ _ _ _ _ _ _ (by assumption); exact BS.go)
                 | (apply goK.k hP hn hx; exact impl_namesOk.link _ _ _ _ _ _ _ _ (by assumption); exact BS.go)
                 | (apply Ok.bk #[.tmp 4] hC.out hP hx hF; exact BR.go; exact BF.go; exact BF.go; exact BF.go; exact BM.go; exact BR.go; exact BR.go; exact BR.go; exact B1.go; exact BR.go)
                 | (apply Ok.ag [1, 2, 5, 28, 29, 30] ih0; exact BT.go; exact ⟨_, by omega, _, _, _, _, _, _, _, _, _, _, _, _, _, by first | rfl | (simp (disch := omega) only [go_sem, ↓reduceIte, eq_self, and_self]; done), by omega, H.out⟩; done)))))
       · (try simp only [List.length_append, List.length_cons, List.length_nil, Nat.zero_add, beq_dec, bne_dec, Bool.or_eq_true, Bool.and_eq_true, Bool.not_eq_true', decide_eq_true_eq, decide_eq_false_iff_not, ite_or', ite_and', ite_not', ge_iff_le, gt_iff_lt] at H)
         repeat' first
          | (with_reducible replace H := sBindA H (by assumption))
          | (with_reducible replace H := sBindS H)
          | (with_reducible replace H := sBind H); obtain ⟨t, hA, H⟩ := H
          | (with_reducible replace H := sBool H); obtain ⟨c, H⟩ | ⟨c, H⟩ := H
          | (with_reducible replace H := sEq H); obtain ⟨c, c', H⟩ | ⟨c, c', H⟩ := H
          | (with_reducible replace H := sEqL H); obtain ⟨c, H⟩ | ⟨c, H⟩ := H
          | (with_reducible replace H := sIte H); obtain ⟨c, H⟩ | ⟨c, H⟩ := H
          | (with_reducible replace H := sAnd H); obtain ⟨c, H⟩ | ⟨c, H⟩ := H
          | (with_reducible replace H := sOr H); obtain ⟨c, H⟩ | ⟨c, H⟩ := H
         all_goals cases H
         all_goals (replace H0 := Hold.mk H0; have H := H0; clear H0)
         all_goals (
          cases H.out))
    · (try simp only [List.length_append, List.length_cons, List.length_nil, Nat.zero_add, beq_dec, bne_dec, Bool.or_eq_true, Bool.and_eq_true, Bool.not_eq_true', decide_eq_true_eq, decide_eq_false_iff_not, ite_or', ite_and', ite_not', ge_iff_le, gt_iff_lt] at H)
      repeat' first
       | (with_reducible replace H := sBindA H (by assumption))
       | (with_reducible replace H := sBindS H)
       | (with_reducible replace H := sBind H); obtain ⟨t, hA, H⟩ := H
       | (with_reducible replace H := sBool H); obtain ⟨c, H⟩ | ⟨c, H⟩ := H
       | (with_reducible replace H := sEq H); obtain ⟨c, c', H⟩ | ⟨c, c', H⟩ := H
       | (with_reducible replace H := sEqL H); obtain ⟨c, H⟩ | ⟨c, H⟩ := H
       | (with_reducible replace H := sIte H); obtain ⟨c, H⟩ | ⟨c, H⟩ := H
       | (with_reducible replace H := sAnd H); obtain ⟨c, H⟩ | ⟨c, H⟩ := H
       | (with_reducible replace H := sOr H); obtain ⟨c, H⟩ | ⟨c, H⟩ := H
      all_goals cases H
      all_goals (replace H0 := Hold.mk H0; have H := H0; clear H0)
      all_goals (
       cases H.out))
 · (try simp only [List.length_append, List.length_cons, List.length_nil, Nat.zero_add, beq_dec, bne_dec, Bool.or_eq_true, Bool.and_eq_true, Bool.not_eq_true', decide_eq_true_eq, decide_eq_false_iff_not, ite_or', ite_and', ite_not', ge_iff_le, gt_iff_lt] at H)
   repeat' first
    | (with_reducible replace H := sBindA H (by assumption))
    | (with_reducible replace H := sBindS H)
    | (with_reducible replace H := sBind H); obtain ⟨t, hA, H⟩ := H
    | (with_reducible replace H := sBool H); obtain ⟨c, H⟩ | ⟨c, H⟩ := H
    | (with_reducible replace H := sEq H); obtain ⟨c, c', H⟩ | ⟨c, c', H⟩ := H
    | (with_reducible replace H := sEqL H); obtain ⟨c, H⟩ | ⟨c, H⟩ := H
    | (with_reducible replace H := sIte H); obtain ⟨c, H⟩ | ⟨c, H⟩ := H
    | (with_reducible replace H := sAnd H); obtain ⟨c, H⟩ | ⟨c, H⟩ := H
    | (with_reducible replace H := sOr H); obtain ⟨c, H⟩ | ⟨c, H⟩ := H
   all_goals cases H
   all_goals (replace H0 := Hold.mk H0; have H := H0; clear H0)
   all_goals (
    replace H := H.out
    (try simp only [List.length_append, List.length_cons, List.length_nil, Nat.zero_add, beq_dec, bne_dec, Bool.or_eq_true, Bool.and_eq_true, Bool.not_eq_true', decide_eq_true_eq, decide_eq_false_iff_not, ite_or', ite_and', ite_not', ge_iff_le, gt_iff_lt] at H)
    repeat' first
     | (with_reducible replace H := sBindA H (by assumption))
     | (with_reducible replace H := sBindS H)
     | (with_reducible replace H := sBind H); obtain ⟨t, hA, H⟩ := H
     | (with_reducible replace H := sBool H); obtain ⟨c, H⟩ | ⟨c, H⟩ := H
     | (with_reducible replace H := sEq H); obtain ⟨c, c', H⟩ | ⟨c, c', H⟩ := H
     | (with_reducible replace H := sEqL H); obtain ⟨c, H⟩ | ⟨c, H⟩ := H
     | (with_reducible replace H := sIte H); obtain ⟨c, H⟩ | ⟨c, H⟩ := H
     | (with_reducible replace H := sAnd H); obtain ⟨c, H⟩ | ⟨c, H⟩ := H
     | (with_reducible replace H := sOr H); obtain ⟨c, H⟩ | ⟨c, H⟩ := H
    all_goals first
     | cases H
     | replace H := Hold.mk H
    all_goals repeat (first
     | apply Ok.seq
     | apply Ok.skip
     | (apply Ok.rN [0, 1, 2, 4, 5, 6, 7, 11, 26, 28, 29, 30, 31, 47] hP hn hx; exact BR.go; exact BV.go)
     | (apply Ok.gS)
     | (apply Ok.cn; exact BS.go)
     | apply Ok.block
     | apply Ok.inBlock
     | (apply Ok.ex; exact BR.go)
     | (apply goE.e [0, 1, 2, 4, 5, 6, 7, 11, 26, 28, 29, 30, 31, 47] hP hn hx; exact BR.go; exact BV.go)
     | (apply goE.n hP hn hx; exact BR.go; exact BJ.go; exact BU.go)
     | (apply goE.q; exact BR.go; exact BG.go; exact BW.go)
     | (apply goQ.t hP; exact BR.go; exact BR.go; exact BS.go)
     | (apply goQ.f hn hx; exact BR.go; exact BR.go; exact BE.go)
     | (apply goK.k hP hn hx; exact impl_within.link _ _ _ _ (by assumption); exact BS.go)
     | (apply goK.k hP hn hx; exact impl_isNode.link _ _ _ _ _ (by assumption); exact BS.go)
     | (apply goK.k hP hn hx; exact slices_Contains_int_int.link _ _ _ _ (by assumption); exact BS.go)
     | (apply goK.k hP hn hx; exact impl_kidsOk.link _ _ _ _ _ _ _ _ _ _ _ (by assumption); exact BS.go)
     | (apply goK.k hP hn hx; exact impl_namesOk.link _ _ _ _ _ _ _ _ (by assumption); exact BS.go)
     | (apply Ok.bk #[.tmp 4] hC.out hP hx hF; exact BR.go; exact BF.go; exact BF.go; exact BF.go; exact BM.go; exact BR.go; exact BR.go; exact BR.go; exact B1.go; exact BR.go)))
set_option maxHeartbeats 8000000 in
theorem impl_deeps.link (k : Nat) (l0_0 : List (S77)) (l0_1 : List (S106)) (l0_2 : List (S103)) (a1 : Int) (r : List Int) (H : impl_deeps.f k l0_0 l0_1 l0_2 a1 = some r) : ACalls Try.prog 84 [.dat true [.sl none 6 (List.flatMap e77 l0_0), .sl none 4 (List.flatMap e106 l0_1), .sl none 4 (List.flatMap e103 l0_2)], .dat false [.sc (.int .i64 a1)]] [(false, [.sl (some 0) 1 (List.flatMap eI r)])] [.dat true [.sl none 6 (List.flatMap e77 l0_0), .sl none 4 (List.flatMap e106 l0_1), .sl none 4 (List.flatMap e103 l0_2)], .dat false [.sc (.int .i64 a1)]] := by
 refine ACalls.enter Try.func84 (by kernel_rfl) rfl (by rw [Try.ntmps84]; exact Nat.le_of_ble_eq_true rfl) (fun C F hC hP hf hn hx => ?_)
 rw [Try.ntmps84] at hn
 have hF : Try.prog.funcs[C.fid]? = some Try.f84 := hf ▸ Try.func84
 replace hC := Hold.mk hC
 replace hx : C.fx = [] := hx
 simp only [entry, entE, enumM, rwA, rwC, Nat.reduceAdd] at ⊢
 simp only [impl_deeps.f, List.length_append, List.length_cons, List.length_nil, Nat.zero_add, beq_dec, bne_dec, Bool.or_eq_true, Bool.and_eq_true, Bool.not_eq_true', decide_eq_true_eq, decide_eq_false_iff_not, ite_or', ite_and', ite_not', ge_iff_le, gt_iff_lt] at H
 repeat' first
  | (with_reducible replace H := sBindA H (by assumption))
  | (with_reducible replace H := sBindS H)
  | (with_reducible replace H := sBind H); obtain ⟨t, hA, H⟩ := H
  | (with_reducible replace H := sBool H); obtain ⟨c, H⟩ | ⟨c, H⟩ := H
  | (with_reducible replace H := sEq H); obtain ⟨c, c', H⟩ | ⟨c, c', H⟩ := H
  | (with_reducible replace H := sEqL H); obtain ⟨c, H⟩ | ⟨c, H⟩ := H
  | (with_reducible replace H := sIte H); obtain ⟨c, H⟩ | ⟨c, H⟩ := H
  | (with_reducible replace H := sAnd H); obtain ⟨c, H⟩ | ⟨c, H⟩ := H
  | (with_reducible replace H := sOr H); obtain ⟨c, H⟩ | ⟨c, H⟩ := H
 all_goals first
  | cases H
  | (exfalso; clear H; omega)
  | replace H := Hold.mk H
 all_goals repeat (first
  | apply Ok.seq
  | apply Ok.skip
  | (apply Ok.rN [0, 1, 2, 4, 5, 6, 7, 9, 14, 15, 16, 21, 27, 28, 29, 30, 44, 54] hP hn hx; exact BR.go; exact BV.go)
  | (apply Ok.gS)
  | (apply Ok.cn; exact BS.go)
  | apply Ok.block
  | apply Ok.inBlock
  | (apply Ok.ex; exact BR.go)
  | (apply goE.e [0, 1, 2, 4, 5, 6, 7, 9, 14, 15, 16, 21, 27, 28, 29, 30, 44, 54] hP hn hx; exact BR.go; exact BV.go)
  | (apply goE.n hP hn hx; exact BR.go; exact BJ.go; exact BU.go)
  | (apply goE.q; exact BR.go; exact BG.go; exact BW.go)
  | (apply goQ.t hP; exact BR.go; exact BR.go; exact BS.go)
  | (apply goQ.f hn hx; exact BR.go; exact BR.go; exact BE.go)
  | (apply goK.k hP hn hx; exact impl_within.link _ _ _ _ (by assumption); exact BS.go)
  | (apply goK.k hP hn hx; exact impl_NodeOk.link _ _ _ _ _ _ (by assumption); exact BS.go)
  | (apply Ok.bk #[.tmp 4] hC.out hP hx hF; exact BR.go; exact BF.go; exact BF.go; exact BF.go; exact BM.go; exact BR.go; exact BR.go; exact BR.go; exact B1.go; exact BR.go)
  | (apply Ok.lq [2, 5, 14, 15] (fun q X => ∃ x5, ∃ x14, ∃ x15, ∃ x485000, ∃ x485001, ∃ x485002, X = ⟨[(2, .pl 0 none 0), (5, .bor 1 none 0 1 false), (14, .dat false [.sc (.int .i64 x14)]), (15, .dat false [.sc (.int .i64 x15)])], [(0, .mem [.sl none 6 (List.flatMap e77 x485000), .sl none 4 (List.flatMap e106 x485001), .sl none 4 (List.flatMap e103 x485002)]), (1, .vir [.sl (some 0) 1 (List.flatMap eI x5)])]⟩ ∧ q ≤ k ∧ impl_deeps.l0 q x5 x14 x15 x485000 x485001 x485002 = some r); exact BT.go; exact ⟨_, _, _, _, _, _, _, by first | rfl | (simp (disch := omega) only [go_sem, ↓reduceIte, eq_self, and_self]; done), by omega, H.out⟩))
 all_goals intro q0_1 X hJ ih0
 all_goals clear H
 all_goals obtain ⟨x5, x14, x15, x485000, x485001, x485002, rfl, hq, H⟩ := hJ
 all_goals (cases q0_1 with
  | zero => (simp only [impl_deeps.l0] at H; cases H)
  | succ kq0_1 =>
   simp only [impl_deeps.l0] at H
   replace H := Hold.mk H
   obtain ⟨H, H0⟩ | ⟨H, H0⟩ := sIteU H.out
   · (try simp only [List.length_append, List.length_cons, List.length_nil, Nat.zero_add, beq_dec, bne_dec, Bool.or_eq_true, Bool.and_eq_true, Bool.not_eq_true', decide_eq_true_eq, decide_eq_false_iff_not, ite_or', ite_and', ite_not', ge_iff_le, gt_iff_lt] at H)
     repeat' first
      | (with_reducible replace H := sBindA H (by assumption))
      | (with_reducible replace H := sBindS H)
      | (with_reducible replace H := sBind H); obtain ⟨t, hA, H⟩ := H
      | (with_reducible replace H := sBool H); obtain ⟨c, H⟩ | ⟨c, H⟩ := H
      | (with_reducible replace H := sEq H); obtain ⟨c, c', H⟩ | ⟨c, c', H⟩ := H
      | (with_reducible replace H := sEqL H); obtain ⟨c, H⟩ | ⟨c, H⟩ := H
      | (with_reducible replace H := sIte H); obtain ⟨c, H⟩ | ⟨c, H⟩ := H
      | (with_reducible replace H := sAnd H); obtain ⟨c, H⟩ | ⟨c, H⟩ := H
      | (with_reducible replace H := sOr H); obtain ⟨c, H⟩ | ⟨c, H⟩ := H
     all_goals cases H
     all_goals (replace H0 := Hold.mk H0; have H := H0; clear H0)
     all_goals (
      obtain ⟨t, hA, H⟩ := sBind H.out
      replace H := Hold.mk H
      repeat (first
       | refine Ok.cutI 21 (fun X => ∃ x5, ∃ x6, ∃ x7, ∃ x14, ∃ x15, ∃ x485000, ∃ x485001, ∃ x485002, ∃ q, X = ⟨[(2, .pl 0 none 0), (5, .bor 1 none 0 1 false), (6, .dat false [.sc (.int .i64 x6)]), (7, .dat false [.sc (.int .i64 x7)]), (14, .dat false [.sc (.int .i64 x14)]), (15, .dat false [.sc (.int .i64 x15)])], [(0, .mem [.sl none 6 (List.flatMap e77 x485000), .sl none 4 (List.flatMap e106 x485001), .sl none 4 (List.flatMap e103 x485002)]), (1, .vir [.sl (some 0) 1 (List.flatMap eI x5)])]⟩ ∧ q ≤ kq0_1 ∧ impl_deeps.j1 q x5 x6 x7 x14 x15 x485000 x485001 x485002 = some r) ?_ ?_
       | apply Ok.seq
       | apply Ok.skip
       | (apply Ok.rN [0, 1, 2, 4, 5, 6, 7, 9, 14, 15, 16, 21, 27, 28, 29, 30, 44, 54] hP hn hx; exact BR.go; exact BV.go)
       | (apply Ok.gS)
       | (apply Ok.cn; exact BS.go)
       | apply Ok.block
       | apply Ok.inBlock
       | (apply Ok.ex; exact BR.go)
       | (apply goE.e [0, 1, 2, 4, 5, 6, 7, 9, 14, 15, 16, 21, 27, 28, 29, 30, 44, 54] hP hn hx; exact BR.go; exact BV.go)
       | (apply goE.n hP hn hx; exact BR.go; exact BJ.go; exact BU.go)
       | (apply goE.q; exact BR.go; exact BG.go; exact BW.go)
       | (apply goQ.t hP; exact BR.go; exact BR.go; exact BS.go)
       | (apply goQ.f hn hx; exact BR.go; exact BR.go; exact BE.go)
       | (apply goK.k hP hn hx; exact impl_within.link _ _ _ _ (by assumption); exact BS.go)
       | (apply goK.k hP hn hx; exact impl_NodeOk.link _ _ _ _ _ _ (by assumption); exact BS.go)
       | (apply Ok.bk #[.tmp 4] hC.out hP hx hF; exact BR.go; exact BF.go; exact BF.go; exact BF.go; exact BM.go; exact BR.go; exact BR.go; exact BR.go; exact B1.go; exact BR.go))
      · intro hjj1
        replace H := H.out
        (try simp only [List.length_append, List.length_cons, List.length_nil, Nat.zero_add, beq_dec, bne_dec, Bool.or_eq_true, Bool.and_eq_true, Bool.not_eq_true', decide_eq_true_eq, decide_eq_false_iff_not, ite_or', ite_and', ite_not', ge_iff_le, gt_iff_lt] at H)
        repeat' first
         | (with_reducible replace H := sBindA H (by assumption))
         | (with_reducible replace H := sBindS H)
         | (with_reducible replace H := sBind H); obtain ⟨t, hA, H⟩ := H
         | (with_reducible replace H := sBool H); obtain ⟨c, H⟩ | ⟨c, H⟩ := H
         | (with_reducible replace H := sEq H); obtain ⟨c, c', H⟩ | ⟨c, c', H⟩ := H
         | (with_reducible replace H := sEqL H); obtain ⟨c, H⟩ | ⟨c, H⟩ := H
         | (with_reducible replace H := sIte H); obtain ⟨c, H⟩ | ⟨c, H⟩ := H
         | (with_reducible replace H := sAnd H); obtain ⟨c, H⟩ | ⟨c, H⟩ := H
         | (with_reducible replace H := sOr H); obtain ⟨c, H⟩ | ⟨c, H⟩ := H
        all_goals first
         | cases H
         | replace H := Hold.mk H
        all_goals repeat (first
         | (apply Ok.mt [2, 5, 6, 7, 14, 15] hjj1; exact BT.go; exact ⟨_, _, _, _, _, _, _, _, kq0_1, by first | rfl | (simp (disch := omega) only [go_sem, ↓reduceIte, eq_self, and_self]; done), by omega, by first | exact H.out | (have h0 := H.out; simp only [*, go_sem, ↓reduceIte, reduceCtorEq] at h0 ⊢; exact h0)⟩; done)
         | apply Ok.seq
         | apply Ok.skip
         | (apply Ok.rN [0, 1, 2, 4, 5, 6, 7, 9, 14, 15, 16, 21, 27, 28, 29, 30, 44, 54] hP hn hx; exact BR.go; exact BV.go)
         | (apply Ok.gS)
         | (apply Ok.cn; exact BS.go)
         | apply Ok.block
         | apply Ok.inBlock
         | (apply Ok.ex; exact BR.go)
         | (apply goE.e [0, 1, 2, 4, 5, 6, 7, 9, 14, 15, 16, 21, 27, 28, 29, 30, 44, 54] hP hn hx; exact BR.go; exact BV.go)
         | (apply goE.n hP hn hx; exact BR.go; exact BJ.go; exact BU.go)
         | (apply goE.q; exact BR.go; exact BG.go; exact BW.go)
         | (apply goQ.t hP; exact BR.go; exact BR.go; exact BS.go)
         | (apply goQ.f hn hx; exact BR.go; exact BR.go; exact BE.go)
         | (apply goK.k hP hn hx; exact impl_within.link _ _ _ _ (by assumption); exact BS.go)
         | (apply goK.k hP hn hx; exact impl_NodeOk.link _ _ _ _ _ _ (by assumption); exact BS.go)
         | (apply Ok.bk #[.tmp 4] hC.out hP hx hF; exact BR.go; exact BF.go; exact BF.go; exact BF.go; exact BM.go; exact BR.go; exact BR.go; exact BR.go; exact B1.go; exact BR.go)
         | (apply Ok.ag [2, 5, 14, 15] ih0; exact BT.go; exact ⟨_, by omega, _, _, _, _, _, _, by first | rfl | (simp (disch := omega) only [go_sem, ↓reduceIte, eq_self, and_self]; done), by omega, H.out⟩; done))
      · clear H
        intro X hJ
        obtain ⟨x5, x6, x7, x14, x15, x485000, x485001, x485002, qj1_2, rfl, hq, H⟩ := hJ
        (cases qj1_2 with
         | zero => (simp only [impl_deeps.j1] at H; cases H)
         | succ kqj1_2 =>
          simp only [impl_deeps.j1, List.length_append, List.length_cons, List.length_nil, Nat.zero_add, beq_dec, bne_dec, Bool.or_eq_true, Bool.and_eq_true, Bool.not_eq_true', decide_eq_true_eq, decide_eq_false_iff_not, ite_or', ite_and', ite_not', ge_iff_le, gt_iff_lt] at H
          repeat' first
           | (with_reducible replace H := sBindA H (by assumption))
           | (with_reducible replace H := sBindS H)
           | (with_reducible replace H := sBind H); obtain ⟨t, hA, H⟩ := H
           | (with_reducible replace H := sBool H); obtain ⟨c, H⟩ | ⟨c, H⟩ := H
           | (with_reducible replace H := sEq H); obtain ⟨c, c', H⟩ | ⟨c, c', H⟩ := H
           | (with_reducible replace H := sEqL H); obtain ⟨c, H⟩ | ⟨c, H⟩ := H
           | (with_reducible replace H := sIte H); obtain ⟨c, H⟩ | ⟨c, H⟩ := H
           | (with_reducible replace H := sAnd H); obtain ⟨c, H⟩ | ⟨c, H⟩ := H
           | (with_reducible replace H := sOr H); obtain ⟨c, H⟩ | ⟨c, H⟩ := H
          all_goals first
           | cases H
           | (exfalso; clear H; omega)
           | replace H := Hold.mk H
          all_goals repeat (first
           | apply Ok.seq
           | apply Ok.skip
           | (apply Ok.rN [0, 1, 2, 4, 5, 6, 7, 9, 14, 15, 16, 21, 27, 28, 29, 30, 44, 54] hP hn hx; exact BR.go; exact BV.go)
           | (apply Ok.gS)
           | (apply Ok.cn; exact BS.go)
           | apply Ok.block
           | apply Ok.inBlock
           | (apply Ok.ex; exact BR.go)
           | (apply goE.e [0, 1, 2, 4, 5, 6, 7, 9, 14, 15, 16, 21, 27, 28, 29, 30, 44, 54] hP hn hx; exact BR.go; exact BV.go)
           | (apply goE.n hP hn hx; exact BR.go; exact BJ.go; exact BU.go)
           | (apply goE.q; exact BR.go; exact BG.go; exact BW.go)
           | (apply goQ.t hP; exact BR.go; exact BR.go; exact BS.go)
           | (apply goQ.f hn hx; exact BR.go; exact BR.go; exact BE.go)
           | (apply goK.k hP hn hx; exact impl_within.link _ _ _ _ (by assumption); exact BS.go)
           | (apply goK.k hP hn hx; exact impl_NodeOk.link _ _ _ _ _ _ (by assumption); exact BS.go)
           | (apply Ok.bk #[.tmp 4] hC.out hP hx hF; exact BR.go; exact BF.go; exact BF.go; exact BF.go; exact BM.go; exact BR.go; exact BR.go; exact BR.go; exact B1.go; exact BR.go)
           | (apply Ok.ag [2, 5, 14, 15] ih0; exact BT.go; exact ⟨_, by omega, _, _, _, _, _, _, by first | rfl | (simp (disch := omega) only [go_sem, ↓reduceIte, eq_self, and_self]; done), by omega, H.out⟩; done)
           | (apply Ok.lq [2, 5, 6, 7, 14, 15, 27, 28, 29] (fun q X => ∃ x5, ∃ x6, ∃ x7, ∃ x14, ∃ x15, ∃ x27, ∃ x28, ∃ x29, ∃ x485000, ∃ x485001, ∃ x485002, X = ⟨[(2, .pl 0 none 0), (5, .bor 1 none 0 1 false), (6, .dat false [.sc (.int .i64 x6)]), (7, .dat false [.sc (.int .i64 x7)]), (14, .dat false [.sc (.int .i64 x14)]), (15, .dat false [.sc (.int .i64 x15)]), (27, .dat false [.sl none 1 (List.flatMap eI x27)]), (28, .dat false [.sc (.int .i64 x28)]), (29, .dat false [.sc (.int .i64 x29)])], [(0, .mem [.sl none 6 (List.flatMap e77 x485000), .sl none 4 (List.flatMap e106 x485001), .sl none 4 (List.flatMap e103 x485002)]), (1, .vir [.sl (some 0) 1 (List.flatMap eI x5)])]⟩ ∧ q ≤ kqj1_2 ∧ impl_deeps.l1 q x5 x6 x7 x14 x15 x27 x28 x29 x485000 x485001 x485002 = some r); exact BT.go; exact ⟨_, _, _, _, _, _, _, _, _, _, _, _, by first | rfl | (simp (disch := omega) only [go_sem, ↓reduceIte, eq_self, and_self]; done), by omega, H.out⟩))
          all_goals intro q1_3 X hJ ih1
          all_goals clear H
          all_goals obtain ⟨x5, x6, x7, x14, x15, x27, x28, x29, x485000, x485001, x485002, rfl, hq, H⟩ := hJ
          all_goals (cases q1_3 with
           | zero => (simp only [impl_deeps.l1] at H; cases H)
           | succ kq1_3 =>
            simp only [impl_deeps.l1, List.length_append, List.length_cons, List.length_nil, Nat.zero_add, beq_dec, bne_dec, Bool.or_eq_true, Bool.and_eq_true, Bool.not_eq_true', decide_eq_true_eq, decide_eq_false_iff_not, ite_or', ite_and', ite_not', ge_iff_le, gt_iff_lt] at H
            repeat' first
             | (with_reducible replace H := sBindA H (by assumption))
             | (with_reducible replace H := sBindS H)
             | (with_reducible replace H := sBind H); obtain ⟨t, hA, H⟩ := H
             | (with_reducible replace H := sBool H); obtain ⟨c, H⟩ | ⟨c, H⟩ := H
             | (with_reducible replace H := sEq H); obtain ⟨c, c', H⟩ | ⟨c, c', H⟩ := H
             | (with_reducible replace H := sEqL H); obtain ⟨c, H⟩ | ⟨c, H⟩ := H
             | (with_reducible replace H := sIte H); obtain ⟨c, H⟩ | ⟨c, H⟩ := H
             | (with_reducible replace H := sAnd H); obtain ⟨c, H⟩ | ⟨c, H⟩ := H
             | (with_reducible replace H := sOr H); obtain ⟨c, H⟩ | ⟨c, H⟩ := H
            all_goals first
             | cases H
             | (exfalso; clear H; omega)
             | replace H := Hold.mk H
            all_goals repeat (first
             | apply Ok.seq
             | apply Ok.skip
             | (apply Ok.rN [0, 1, 2, 4, 5, 6, 7, 9, 14, 15, 16, 21, 27, 28, 29, 30, 44, 54] hP hn hx; exact BR.go; exact BV.go)
             | (apply Ok.gS)
             | (apply Ok.cn; exact BS.go)
             | apply Ok.block
             | apply Ok.inBlock
             | (apply Ok.ex; exact BR.go)
             | (apply goE.e [0, 1, 2, 4, 5, 6, 7, 9, 14, 15, 16, 21, 27, 28, 29, 30, 44, 54] hP hn hx; exact BR.go; exact BV.go)
             | (apply goE.n hP hn hx; exact BR.go; exact BJ.go; exact BU.go)
             | (apply goE.q; exact BR.go; exact BG.go; exact BW.go)
             | (apply goQ.t hP; exact BR.go; exact BR.go; exact BS.go)
             | (apply goQ.f hn hx; exact BR.go; exact BR.go; exact BE.go)
             | (apply goK.k hP hn hx; exact impl_within.link _ _ _ _ (by assumption); exact BS.go)
             | (apply goK.k hP hn hx; exact impl_NodeOk.link _ _ _ _ _ _ (by assumption); exact BS.go)
             | (apply Ok.bk #[.tmp 4] hC.out hP hx hF; exact BR.go; exact BF.go; exact BF.go; exact BF.go; exact BM.go; exact BR.go; exact BR.go; exact BR.go; exact B1.go; exact BR.go)
             | (apply Ok.ag [2, 5, 14, 15] ih0; exact BT.go; exact ⟨_, by omega, _, _, _, _, _, _, by first | rfl | (simp (disch := omega) only [go_sem, ↓reduceIte, eq_self, and_self]; done), by omega, H.out⟩; done)
             | (apply Ok.ag [2, 5, 6, 7, 14, 15, 27, 28, 29] ih1; exact BT.go; exact ⟨_, by omega, _, _, _, _, _, _, _, _, _, _, _, by first | rfl | (simp (disch := omega) only [go_sem, ↓reduceIte, eq_self, and_self]; done), by omega, H.out⟩; done)))))
   · (try simp only [List.length_append, List.length_cons, List.length_nil, Nat.zero_add, beq_dec, bne_dec, Bool.or_eq_true, Bool.and_eq_true, Bool.not_eq_true', decide_eq_true_eq, decide_eq_false_iff_not, ite_or', ite_and', ite_not', ge_iff_le, gt_iff_lt] at H)
     repeat' first
      | (with_reducible replace H := sBindA H (by assumption))
      | (with_reducible replace H := sBindS H)
      | (with_reducible replace H := sBind H); obtain ⟨t, hA, H⟩ := H
      | (with_reducible replace H := sBool H); obtain ⟨c, H⟩ | ⟨c, H⟩ := H
      | (with_reducible replace H := sEq H); obtain ⟨c, c', H⟩ | ⟨c, c', H⟩ := H
      | (with_reducible replace H := sEqL H); obtain ⟨c, H⟩ | ⟨c, H⟩ := H
      | (with_reducible replace H := sIte H); obtain ⟨c, H⟩ | ⟨c, H⟩ := H
      | (with_reducible replace H := sAnd H); obtain ⟨c, H⟩ | ⟨c, H⟩ := H
      | (with_reducible replace H := sOr H); obtain ⟨c, H⟩ | ⟨c, H⟩ := H
     all_goals cases H
     all_goals (replace H0 := Hold.mk H0; have H := H0; clear H0)
     all_goals (
      replace H := H.out
      (try simp only [List.length_append, List.length_cons, List.length_nil, Nat.zero_add, beq_dec, bne_dec, Bool.or_eq_true, Bool.and_eq_true, Bool.not_eq_true', decide_eq_true_eq, decide_eq_false_iff_not, ite_or', ite_and', ite_not', ge_iff_le, gt_iff_lt] at H)
      repeat' first
       | (with_reducible replace H := sBindA H (by assumption))
       | (with_reducible replace H := sBindS H)
       | (with_reducible replace H := sBind H); obtain ⟨t, hA, H⟩ := H
       | (with_reducible replace H := sBool H); obtain ⟨c, H⟩ | ⟨c, H⟩ := H
       | (with_reducible replace H := sEq H); obtain ⟨c, c', H⟩ | ⟨c, c', H⟩ := H
       | (with_reducible replace H := sEqL H); obtain ⟨c, H⟩ | ⟨c, H⟩ := H
       | (with_reducible replace H := sIte H); obtain ⟨c, H⟩ | ⟨c, H⟩ := H
       | (with_reducible replace H := sAnd H); obtain ⟨c, H⟩ | ⟨c, H⟩ := H
       | (with_reducible replace H := sOr H); obtain ⟨c, H⟩ | ⟨c, H⟩ := H
      all_goals first
       | cases H
       | replace H := Hold.mk H
      all_goals repeat (first
       | apply Ok.seq
       | apply Ok.skip
       | (apply Ok.rN [0, 1, 2, 4, 5, 6, 7, 9, 14, 15, 16, 21, 27, 28, 29, 30, 44, 54] hP hn hx; exact BR.go; exact BV.go)
       | (apply Ok.gS)
       | (apply Ok.cn; exact BS.go)
       | apply Ok.block
       | apply Ok.inBlock
       | (apply Ok.ex; exact BR.go)
       | (apply goE.e [0, 1, 2, 4, 5, 6, 7, 9, 14, 15, 16, 21, 27, 28, 29, 30, 44, 54] hP hn hx; exact BR.go; exact BV.go)
       | (apply goE.n hP hn hx; exact BR.go; exact BJ.go; exact BU.go)
       | (apply goE.q; exact BR.go; exact BG.go; exact BW.go)
       | (apply goQ.t hP; exact BR.go; exact BR.go; exact BS.go)
       | (apply goQ.f hn hx; exact BR.go; exact BR.go; exact BE.go)
       | (apply goK.k hP hn hx; exact impl_within.link _ _ _ _ (by assumption); exact BS.go)
       | (apply goK.k hP hn hx; exact impl_NodeOk.link _ _ _ _ _ _ (by assumption); exact BS.go)
       | (apply Ok.bk #[.tmp 4] hC.out hP hx hF; exact BR.go; exact BF.go; exact BF.go; exact BF.go; exact BM.go; exact BR.go; exact BR.go; exact BR.go; exact B1.go; exact BR.go)
       | (apply Ok.ag [2, 5, 14, 15] ih0; exact BT.go; exact ⟨_, by omega, _, _, _, _, _, _, by first | rfl | (simp (disch := omega) only [go_sem, ↓reduceIte, eq_self, and_self]; done), by omega, H.out⟩; done))))
set_option maxHeartbeats 8000000 in
theorem impl_DeepOf.link (k : Nat) (l0_0 : List (S77)) (l0_1 : List (S106)) (l0_2 : List (S103)) (a1 : Int) (r : Int) (H : impl_DeepOf.f k l0_0 l0_1 l0_2 a1 = some r) : ACalls Try.prog 38 [.dat true [.sl none 6 (List.flatMap e77 l0_0), .sl none 4 (List.flatMap e106 l0_1), .sl none 4 (List.flatMap e103 l0_2)], .dat false [.sc (.int .i64 a1)]] [(false, [.sc (.int .i64 r)])] [.dat true [.sl none 6 (List.flatMap e77 l0_0), .sl none 4 (List.flatMap e106 l0_1), .sl none 4 (List.flatMap e103 l0_2)], .dat false [.sc (.int .i64 a1)]] := by
 refine ACalls.enter Try.func38 (by kernel_rfl) rfl (by rw [Try.ntmps38]; exact Nat.le_of_ble_eq_true rfl) (fun C F hC hP hf hn hx => ?_)
 rw [Try.ntmps38] at hn
 have hF : Try.prog.funcs[C.fid]? = some Try.f38 := hf ▸ Try.func38
 replace hC := Hold.mk hC
 replace hx : C.fx = [] := hx
 simp only [entry, entE, enumM, rwA, rwC, Nat.reduceAdd] at ⊢
 simp only [impl_DeepOf.f, List.length_append, List.length_cons, List.length_nil, Nat.zero_add, beq_dec, bne_dec, Bool.or_eq_true, Bool.and_eq_true, Bool.not_eq_true', decide_eq_true_eq, decide_eq_false_iff_not, ite_or', ite_and', ite_not', ge_iff_le, gt_iff_lt] at H
 repeat' first
  | (with_reducible replace H := sBindA H (by assumption))
  | (with_reducible replace H := sBindS H)
  | (with_reducible replace H := sBind H); obtain ⟨t, hA, H⟩ := H
  | (with_reducible replace H := sBool H); obtain ⟨c, H⟩ | ⟨c, H⟩ := H
  | (with_reducible replace H := sEq H); obtain ⟨c, c', H⟩ | ⟨c, c', H⟩ := H
  | (with_reducible replace H := sEqL H); obtain ⟨c, H⟩ | ⟨c, H⟩ := H
  | (with_reducible replace H := sIte H); obtain ⟨c, H⟩ | ⟨c, H⟩ := H
  | (with_reducible replace H := sAnd H); obtain ⟨c, H⟩ | ⟨c, H⟩ := H
  | (with_reducible replace H := sOr H); obtain ⟨c, H⟩ | ⟨c, H⟩ := H
 all_goals first
  | cases H
  | (exfalso; clear H; omega)
  | replace H := Hold.mk H
 all_goals repeat (first
  | apply Ok.seq
  | apply Ok.skip
  | (apply Ok.rN [0, 1, 2, 4, 8] hP hn hx; exact BR.go; exact BV.go)
  | (apply Ok.gS)
  | (apply Ok.cn; exact BS.go)
  | apply Ok.block
  | apply Ok.inBlock
  | (apply Ok.ex; exact BR.go)
  | (apply goE.e [0, 1, 2, 4, 8] hP hn hx; exact BR.go; exact BV.go)
  | (apply goE.n hP hn hx; exact BR.go; exact BJ.go; exact BU.go)
  | (apply goE.q; exact BR.go; exact BG.go; exact BW.go)
  | (apply goQ.t hP; exact BR.go; exact BR.go; exact BS.go)
  | (apply goQ.f hn hx; exact BR.go; exact BR.go; exact BE.go)
  | (apply goK.k hP hn hx; exact impl_isNode.link _ _ _ _ _ (by assumption); exact BS.go)
  | (apply goK.k hP hn hx; exact impl_deeps.link _ _ _ _ _ _ (by assumption); exact BS.go)
  | (apply Ok.bk #[.tmp 4] hC.out hP hx hF; exact BR.go; exact BF.go; exact BF.go; exact BF.go; exact BM.go; exact BR.go; exact BR.go; exact BR.go; exact B1.go; exact BR.go))
set_option maxHeartbeats 8000000 in
theorem impl_countsOk.link (k : Nat) (l0_0 : List (S77)) (l0_1 : List (S106)) (l0_2 : List (S103)) (r : Bool) (H : impl_countsOk.f k l0_0 l0_1 l0_2 = some r) : ACalls Try.prog 90 [.dat true [.sl none 6 (List.flatMap e77 l0_0), .sl none 4 (List.flatMap e106 l0_1), .sl none 4 (List.flatMap e103 l0_2)]] [(false, [.sc (.bool r)])] [.dat true [.sl none 6 (List.flatMap e77 l0_0), .sl none 4 (List.flatMap e106 l0_1), .sl none 4 (List.flatMap e103 l0_2)]] := by
 refine ACalls.enter Try.func90 (by kernel_rfl) rfl (by rw [Try.ntmps90]; exact Nat.le_of_ble_eq_true rfl) (fun C F hC hP hf hn hx => ?_)
 rw [Try.ntmps90] at hn
 have hF : Try.prog.funcs[C.fid]? = some Try.f90 := hf ▸ Try.func90
 replace hC := Hold.mk hC
 replace hx : C.fx = [] := hx
 simp only [entry, entE, enumM, rwA, rwC, Nat.reduceAdd] at ⊢
 simp only [impl_countsOk.f, List.length_append, List.length_cons, List.length_nil, Nat.zero_add, beq_dec, bne_dec, Bool.or_eq_true, Bool.and_eq_true, Bool.not_eq_true', decide_eq_true_eq, decide_eq_false_iff_not, ite_or', ite_and', ite_not', ge_iff_le, gt_iff_lt] at H
 repeat' first
  | (with_reducible replace H := sBindA H (by assumption))
  | (with_reducible replace H := sBindS H)
  | (with_reducible replace H := sBind H); obtain ⟨t, hA, H⟩ := H
  | (with_reducible replace H := sBool H); obtain ⟨c, H⟩ | ⟨c, H⟩ := H
  | (with_reducible replace H := sEq H); obtain ⟨c, c', H⟩ | ⟨c, c', H⟩ := H
  | (with_reducible replace H := sEqL H); obtain ⟨c, H⟩ | ⟨c, H⟩ := H
  | (with_reducible replace H := sIte H); obtain ⟨c, H⟩ | ⟨c, H⟩ := H
  | (with_reducible replace H := sAnd H); obtain ⟨c, H⟩ | ⟨c, H⟩ := H
  | (with_reducible replace H := sOr H); obtain ⟨c, H⟩ | ⟨c, H⟩ := H
 all_goals first
  | cases H
  | replace H := Hold.mk H
 all_goals repeat (first
  | apply Ok.seq
  | apply Ok.skip
  | (apply Ok.rN [0, 1, 2, 4, 6, 8, 9, 10, 11, 30, 33, 34, 35, 36, 48] hP hn hx; exact BR.go; exact BV.go)
  | (apply Ok.gS)
  | (apply Ok.cn; exact BS.go)
  | apply Ok.block
  | apply Ok.inBlock
  | (apply Ok.ex; exact BR.go)
  | (apply goE.e [0, 1, 2, 4, 6, 8, 9, 10, 11, 30, 33, 34, 35, 36, 48] hP hn hx; exact BR.go; exact BV.go)
  | (apply goE.n hP hn hx; exact BR.go; exact BJ.go; exact BU.go)
  | (apply goE.q; exact BR.go; exact BG.go; exact BW.go)
  | (apply goQ.t hP; exact BR.go; exact BR.go; exact BS.go)
  | (apply goQ.f hn hx; exact BR.go; exact BR.go; exact BE.go)
  | (apply goK.k hP hn hx; exact impl_within.link _ _ _ _ (by assumption); exact BS.go)
  | (apply Ok.bk #[.tmp 2] hC.out hP hx hF; exact BR.go; exact BF.go; exact BF.go; exact BF.go; exact BM.go; exact BR.go; exact BR.go; exact BR.go; exact B1.go; exact BR.go)
  | (apply Ok.lq [1, 8, 9, 10] (fun q X => ∃ x8, ∃ x9, ∃ x10, ∃ x504000, ∃ x504001, ∃ x504002, X = ⟨[(1, .pl 0 none 0), (8, .dat false [.sl none 4 (List.flatMap e106 x8)]), (9, .dat false [.sc (.int .i64 x9)]), (10, .dat false [.sc (.int .i64 x10)])], [(0, .mem [.sl none 6 (List.flatMap e77 x504000), .sl none 4 (List.flatMap e106 x504001), .sl none 4 (List.flatMap e103 x504002)])]⟩ ∧ q ≤ k ∧ impl_countsOk.l0 q x8 x9 x10 x504000 x504001 x504002 = some r); exact BT.go; exact ⟨_, _, _, _, _, _, _, by first | rfl | (simp (disch := omega) only [go_sem, ↓reduceIte, eq_self, and_self]; done), by omega, H.out⟩))
 all_goals intro q0_1 X hJ ih0
 all_goals clear H
 all_goals obtain ⟨x8, x9, x10, x504000, x504001, x504002, rfl, hq, H⟩ := hJ
 all_goals (cases q0_1 with
  | zero => (simp only [impl_countsOk.l0] at H; cases H)
  | succ kq0_1 =>
   simp only [impl_countsOk.l0, List.length_append, List.length_cons, List.length_nil, Nat.zero_add, beq_dec, bne_dec, Bool.or_eq_true, Bool.and_eq_true, Bool.not_eq_true', decide_eq_true_eq, decide_eq_false_iff_not, ite_or', ite_and', ite_not', ge_iff_le, gt_iff_lt] at H
   repeat' first
    | (with_reducible replace H := sBindA H (by assumption))
    | (with_reducible replace H := sBindS H)
    | (with_reducible replace H := sBind H); obtain ⟨t, hA, H⟩ := H
    | (with_reducible replace H := sBool H); obtain ⟨c, H⟩ | ⟨c, H⟩ := H
    | (with_reducible replace H := sEq H); obtain ⟨c, c', H⟩ | ⟨c, c', H⟩ := H
    | (with_reducible replace H := sEqL H); obtain ⟨c, H⟩ | ⟨c, H⟩ := H
    | (with_reducible replace H := sIte H); obtain ⟨c, H⟩ | ⟨c, H⟩ := H
    | (with_reducible replace H := sAnd H); obtain ⟨c, H⟩ | ⟨c, H⟩ := H
    | (with_reducible replace H := sOr H); obtain ⟨c, H⟩ | ⟨c, H⟩ := H
   all_goals first
    | cases H
    | (exfalso; clear H; omega)
    | replace H := Hold.mk H
   all_goals repeat (first
    | apply Ok.seq
    | apply Ok.skip
    | (apply Ok.rN [0, 1, 2, 4, 6, 8, 9, 10, 11, 30, 33, 34, 35, 36, 48] hP hn hx; exact BR.go; exact BV.go)
    | (apply Ok.gS)
    | (apply Ok.cn; exact BS.go)
    | apply Ok.block
    | apply Ok.inBlock
    | (apply Ok.ex; exact BR.go)
    | (apply goE.e [0, 1, 2, 4, 6, 8, 9, 10, 11, 30, 33, 34, 35, 36, 48] hP hn hx; exact BR.go; exact BV.go)
    | (apply goE.n hP hn hx; exact BR.go; exact BJ.go; exact BU.go)
    | (apply goE.q; exact BR.go; exact BG.go; exact BW.go)
    | (apply goQ.t hP; exact BR.go; exact BR.go; exact BS.go)
    | (apply goQ.f hn hx; exact BR.go; exact BR.go; exact BE.go)
    | (apply goK.k hP hn hx; exact impl_within.link _ _ _ _ (by assumption); exact BS.go)
    | (apply Ok.bk #[.tmp 2] hC.out hP hx hF; exact BR.go; exact BF.go; exact BF.go; exact BF.go; exact BM.go; exact BR.go; exact BR.go; exact BR.go; exact B1.go; exact BR.go)
    | (apply Ok.ag [1, 8, 9, 10] ih0; exact BT.go; exact ⟨_, by omega, _, _, _, _, _, _, by first | rfl | (simp (disch := omega) only [go_sem, ↓reduceIte, eq_self, and_self]; done), by omega, H.out⟩; done)
    | (apply Ok.lq [1, 33, 34, 35] (fun q X => ∃ x33, ∃ x34, ∃ x35, ∃ x504000, ∃ x504001, ∃ x504002, X = ⟨[(1, .pl 0 none 0), (33, .dat false [.sl none 4 (List.flatMap e103 x33)]), (34, .dat false [.sc (.int .i64 x34)]), (35, .dat false [.sc (.int .i64 x35)])], [(0, .mem [.sl none 6 (List.flatMap e77 x504000), .sl none 4 (List.flatMap e106 x504001), .sl none 4 (List.flatMap e103 x504002)])]⟩ ∧ q ≤ kq0_1 ∧ impl_countsOk.l1 q x33 x34 x35 x504000 x504001 x504002 = some r); exact BT.go; exact ⟨_, _, _, _, _, _, _, by first | rfl | (simp (disch := omega) only [go_sem, ↓reduceIte, eq_self, and_self]; done), by omega, H.out⟩))
   all_goals intro q1_2 X hJ ih1
   all_goals clear H
   all_goals obtain ⟨x33, x34, x35, x504000, x504001, x504002, rfl, hq, H⟩ := hJ
   all_goals (cases q1_2 with
    | zero => (simp only [impl_countsOk.l1] at H; cases H)
    | succ kq1_2 =>
     simp only [impl_countsOk.l1, List.length_append, List.length_cons, List.length_nil, Nat.zero_add, beq_dec, bne_dec, Bool.or_eq_true, Bool.and_eq_true, Bool.not_eq_true', decide_eq_true_eq, decide_eq_false_iff_not, ite_or', ite_and', ite_not', ge_iff_le, gt_iff_lt] at H
     repeat' first
      | (with_reducible replace H := sBindA H (by assumption))
      | (with_reducible replace H := sBindS H)
      | (with_reducible replace H := sBind H); obtain ⟨t, hA, H⟩ := H
      | (with_reducible replace H := sBool H); obtain ⟨c, H⟩ | ⟨c, H⟩ := H
      | (with_reducible replace H := sEq H); obtain ⟨c, c', H⟩ | ⟨c, c', H⟩ := H
      | (with_reducible replace H := sEqL H); obtain ⟨c, H⟩ | ⟨c, H⟩ := H
      | (with_reducible replace H := sIte H); obtain ⟨c, H⟩ | ⟨c, H⟩ := H
      | (with_reducible replace H := sAnd H); obtain ⟨c, H⟩ | ⟨c, H⟩ := H
      | (with_reducible replace H := sOr H); obtain ⟨c, H⟩ | ⟨c, H⟩ := H
     all_goals first
      | cases H
      | (exfalso; clear H; omega)
      | replace H := Hold.mk H
     all_goals repeat (first
      | apply Ok.seq
      | apply Ok.skip
      | (apply Ok.rN [0, 1, 2, 4, 6, 8, 9, 10, 11, 30, 33, 34, 35, 36, 48] hP hn hx; exact BR.go; exact BV.go)
      | (apply Ok.gS)
      | (apply Ok.cn; exact BS.go)
      | apply Ok.block
      | apply Ok.inBlock
      | (apply Ok.ex; exact BR.go)
      | (apply goE.e [0, 1, 2, 4, 6, 8, 9, 10, 11, 30, 33, 34, 35, 36, 48] hP hn hx; exact BR.go; exact BV.go)
      | (apply goE.n hP hn hx; exact BR.go; exact BJ.go; exact BU.go)
      | (apply goE.q; exact BR.go; exact BG.go; exact BW.go)
      | (apply goQ.t hP; exact BR.go; exact BR.go; exact BS.go)
      | (apply goQ.f hn hx; exact BR.go; exact BR.go; exact BE.go)
      | (apply goK.k hP hn hx; exact impl_within.link _ _ _ _ (by assumption); exact BS.go)
      | (apply Ok.bk #[.tmp 2] hC.out hP hx hF; exact BR.go; exact BF.go; exact BF.go; exact BF.go; exact BM.go; exact BR.go; exact BR.go; exact BR.go; exact B1.go; exact BR.go)
      | (apply Ok.ag [1, 8, 9, 10] ih0; exact BT.go; exact ⟨_, by omega, _, _, _, _, _, _, by first | rfl | (simp (disch := omega) only [go_sem, ↓reduceIte, eq_self, and_self]; done), by omega, H.out⟩; done)
      | (apply Ok.ag [1, 33, 34, 35] ih1; exact BT.go; exact ⟨_, by omega, _, _, _, _, _, _, by first | rfl | (simp (disch := omega) only [go_sem, ↓reduceIte, eq_self, and_self]; done), by omega, H.out⟩; done))))
set_option maxHeartbeats 8000000 in
theorem impl_bodies.link (k : Nat) (l0_0 : List (S77)) (l0_1 : List (S106)) (l0_2 : List (S103)) (r : List Int) (H : impl_bodies.f k l0_0 l0_1 l0_2 = some r) : ACalls Try.prog 95 [.dat true [.sl none 6 (List.flatMap e77 l0_0), .sl none 4 (List.flatMap e106 l0_1), .sl none 4 (List.flatMap e103 l0_2)]] [(false, [.sl (some 0) 1 (List.flatMap eI r)])] [.dat true [.sl none 6 (List.flatMap e77 l0_0), .sl none 4 (List.flatMap e106 l0_1), .sl none 4 (List.flatMap e103 l0_2)]] := by
 refine ACalls.enter Try.func95 (by kernel_rfl) rfl (by rw [Try.ntmps95]; exact Nat.le_of_ble_eq_true rfl) (fun C F hC hP hf hn hx => ?_)
 rw [Try.ntmps95] at hn
 have hF : Try.prog.funcs[C.fid]? = some Try.f95 := hf ▸ Try.func95
 replace hC := Hold.mk hC
 replace hx : C.fx = [] := hx
 simp only [entry, entE, enumM, rwA, rwC, Nat.reduceAdd] at ⊢
 simp only [impl_bodies.f, List.length_append, List.length_cons, List.length_nil, Nat.zero_add, beq_dec, bne_dec, Bool.or_eq_true, Bool.and_eq_true, Bool.not_eq_true', decide_eq_true_eq, decide_eq_false_iff_not, ite_or', ite_and', ite_not', ge_iff_le, gt_iff_lt] at H
 repeat' first
  | (with_reducible replace H := sBindA H (by assumption))
  | (with_reducible replace H := sBindS H)
  | (with_reducible replace H := sBind H); obtain ⟨t, hA, H⟩ := H
  | (with_reducible replace H := sBool H); obtain ⟨c, H⟩ | ⟨c, H⟩ := H
  | (with_reducible replace H := sEq H); obtain ⟨c, c', H⟩ | ⟨c, c', H⟩ := H
  | (with_reducible replace H := sEqL H); obtain ⟨c, H⟩ | ⟨c, H⟩ := H
  | (with_reducible replace H := sIte H); obtain ⟨c, H⟩ | ⟨c, H⟩ := H
  | (with_reducible replace H := sAnd H); obtain ⟨c, H⟩ | ⟨c, H⟩ := H
  | (with_reducible replace H := sOr H); obtain ⟨c, H⟩ | ⟨c, H⟩ := H
 all_goals first
  | cases H
  | replace H := Hold.mk H
 all_goals (try simp only [List.length_append, List.length_cons, List.length_nil, Nat.zero_add] at *)
 all_goals repeat (first
  | apply Ok.seq
  | apply Ok.skip
  | (apply Ok.rN [0, 1, 2, 3, 5, 7, 9, 11, 12, 13, 14, 18, 19, 20, 21, 32, 33, 34, 35] hP hn hx; exact BR.go; exact BV.go)
  | (apply Ok.cn; exact BS.go)
  | apply Ok.block
  | apply Ok.inBlock
  | (apply Ok.ex; exact BR.go)
  | (apply Ok.bk #[.tmp 2] hC.out hP hx hF; exact BR.go; exact BF.go; exact BF.go; exact BF.go; exact BM.go; exact BR.go; exact BR.go; exact BR.go; exact B1.go; exact BR.go)
  | (apply Ok.lq [1, 3, 11, 12, 13] (fun q X => ∃ x3, ∃ x11, ∃ x12, ∃ x13, ∃ x543000, ∃ x543001, ∃ x543002, X = ⟨[(1, .pl 0 none 0), (3, .bor 1 none 0 1 false), (11, .dat false [.sl none 4 (List.flatMap e106 x11)]), (12, .dat false [.sc (.int .i64 x12)]), (13, .dat false [.sc (.int .i64 x13)])], [(0, .mem [.sl none 6 (List.flatMap e77 x543000), .sl none 4 (List.flatMap e106 x543001), .sl none 4 (List.flatMap e103 x543002)]), (1, .vir [.sl (some 0) 1 (List.flatMap eI x3)])]⟩ ∧ q ≤ k ∧ impl_bodies.l0 q x3 x11 x12 x13 x543000 x543001 x543002 = some r); exact BT.go; exact ⟨_, _, _, _, _, _, _, _, by first | rfl | (simp (disch := omega) only [go_sem, ↓reduceIte, eq_self, and_self]; done), by omega, H.out⟩))
 all_goals intro q0_1 X hJ ih0
 all_goals clear H
 all_goals obtain ⟨x3, x11, x12, x13, x543000, x543001, x543002, rfl, hq, H⟩ := hJ
 all_goals (cases q0_1 with
  | zero => (simp only [impl_bodies.l0] at H; cases H)
  | succ kq0_1 =>
   simp only [impl_bodies.l0, List.length_append, List.length_cons, List.length_nil, Nat.zero_add, beq_dec, bne_dec, Bool.or_eq_true, Bool.and_eq_true, Bool.not_eq_true', decide_eq_true_eq, decide_eq_false_iff_not, ite_or', ite_and', ite_not', ge_iff_le, gt_iff_lt] at H
   repeat' first
    | (with_reducible replace H := sBindA H (by assumption))
    | (with_reducible replace H := sBindS H)
    | (with_reducible replace H := sBind H); obtain ⟨t, hA, H⟩ := H
    | (with_reducible replace H := sBool H); obtain ⟨c, H⟩ | ⟨c, H⟩ := H
    | (with_reducible replace H := sEq H); obtain ⟨c, c', H⟩ | ⟨c, c', H⟩ := H
    | (with_reducible replace H := sEqL H); obtain ⟨c, H⟩ | ⟨c, H⟩ := H
    | (with_reducible replace H := sIte H); obtain ⟨c, H⟩ | ⟨c, H⟩ := H
    | (with_reducible replace H := sAnd H); obtain ⟨c, H⟩ | ⟨c, H⟩ := H
    | (with_reducible replace H := sOr H); obtain ⟨c, H⟩ | ⟨c, H⟩ := H
   all_goals first
    | cases H
    | (exfalso; clear H; omega)
    | replace H := Hold.mk H
   all_goals (try simp only [List.length_append, List.length_cons, List.length_nil, Nat.zero_add] at *)
   all_goals repeat (first
    | apply Ok.seq
    | apply Ok.skip
    | (apply Ok.rN [0, 1, 2, 3, 5, 7, 9, 11, 12, 13, 14, 18, 19, 20, 21, 32, 33, 34, 35] hP hn hx; exact BR.go; exact BV.go)
    | (apply Ok.cn; exact BS.go)
    | apply Ok.block
    | apply Ok.inBlock
    | (apply Ok.ex; exact BR.go)
    | (apply Ok.bk #[.tmp 2] hC.out hP hx hF; exact BR.go; exact BF.go; exact BF.go; exact BF.go; exact BM.go; exact BR.go; exact BR.go; exact BR.go; exact B1.go; exact BR.go)
    | (apply Ok.ag [1, 3, 11, 12, 13] ih0; exact BT.go; exact ⟨_, by omega, _, _, _, _, _, _, _, by first | rfl | (simp (disch := omega) only [go_sem, ↓reduceIte, eq_self, and_self]; done), by omega, H.out⟩; done)
    | (apply Ok.lq [1, 3, 11, 12, 13, 18, 19, 20] (fun q X => ∃ x3, ∃ x11, ∃ x12, ∃ x13, ∃ x18, ∃ x19, ∃ x20, ∃ x543000, ∃ x543001, ∃ x543002, X = ⟨[(1, .pl 0 none 0), (3, .bor 1 none 0 1 false), (11, .dat false [.sl none 4 (List.flatMap e106 x11)]), (12, .dat false [.sc (.int .i64 x12)]), (13, .dat false [.sc (.int .i64 x13)]), (18, .dat false [.sl none 3 (List.flatMap e131 x18)]), (19, .dat false [.sc (.int .i64 x19)]), (20, .dat false [.sc (.int .i64 x20)])], [(0, .mem [.sl none 6 (List.flatMap e77 x543000), .sl none 4 (List.flatMap e106 x543001), .sl none 4 (List.flatMap e103 x543002)]), (1, .vir [.sl (some 0) 1 (List.flatMap eI x3)])]⟩ ∧ q ≤ kq0_1 ∧ impl_bodies.l1 q x3 x11 x12 x13 x18 x19 x20 x543000 x543001 x543002 = some r); exact BT.go; exact ⟨_, _, _, _, _, _, _, _, _, _, _, by first | rfl | (simp (disch := omega) only [go_sem, ↓reduceIte, eq_self, and_self]; done), by omega, H.out⟩)
    | (apply Ok.lq [3, 32, 33, 34] (fun q X => ∃ x3, ∃ x32, ∃ x33, ∃ x34, X = ⟨[(3, .bor 0 none 0 1 false), (32, .dat false [.sl none 4 (List.flatMap e103 x32)]), (33, .dat false [.sc (.int .i64 x33)]), (34, .dat false [.sc (.int .i64 x34)])], [(0, .vir [.sl (some 0) 1 (List.flatMap eI x3)])]⟩ ∧ q ≤ kq0_1 ∧ impl_bodies.l2 q x3 x32 x33 x34 = some r); exact BT.go; exact ⟨_, _, _, _, _, by first | rfl | (simp (disch := omega) only [go_sem, ↓reduceIte, eq_self, and_self]; done), by omega, H.out⟩))
   any_goals (
     intro q1_2 X hJ ih1
     clear H
     obtain ⟨x3, x11, x12, x13, x18, x19, x20, x543000, x543001, x543002, rfl, hq, H⟩ := hJ
     (cases q1_2 with
      | zero => (simp only [impl_bodies.l1] at H; cases H)
      | succ kq1_2 =>
       simp only [impl_bodies.l1, List.length_append, List.length_cons, List.length_nil, Nat.zero_add, beq_dec, bne_dec, Bool.or_eq_true, Bool.and_eq_true, Bool.not_eq_true', decide_eq_true_eq, decide_eq_false_iff_not, ite_or', ite_and', ite_not', ge_iff_le, gt_iff_lt] at H
       repeat' first
        | (with_reducible replace H := sBindA H (by assumption))
        | (with_reducible replace H := sBindS H)
        | (with_reducible replace H := sBind H); obtain ⟨t, hA, H⟩ := H
        | (with_reducible replace H := sBool H); obtain ⟨c, H⟩ | ⟨c, H⟩ := H
        | (with_reducible replace H := sEq H); obtain ⟨c, c', H⟩ | ⟨c, c', H⟩ := H
        | (with_reducible replace H := sEqL H); obtain ⟨c, H⟩ | ⟨c, H⟩ := H
        | (with_reducible replace H := sIte H); obtain ⟨c, H⟩ | ⟨c, H⟩ := H
        | (with_reducible replace H := sAnd H); obtain ⟨c, H⟩ | ⟨c, H⟩ := H
        | (with_reducible replace H := sOr H); obtain ⟨c, H⟩ | ⟨c, H⟩ := H
       all_goals first
        | cases H
        | (exfalso; clear H; omega)
        | replace H := Hold.mk H
       all_goals (try simp only [List.length_append, List.length_cons, List.length_nil, Nat.zero_add] at *)
       all_goals repeat (first
        | apply Ok.seq
        | apply Ok.skip
        | (apply Ok.rN [0, 1, 2, 3, 5, 7, 9, 11, 12, 13, 14, 18, 19, 20, 21, 32, 33, 34, 35] hP hn hx; exact BR.go; exact BV.go)
        | (apply Ok.cn; exact BS.go)
        | apply Ok.block
        | apply Ok.inBlock
        | (apply Ok.ex; exact BR.go)
        | (apply Ok.bk #[.tmp 2] hC.out hP hx hF; exact BR.go; exact BF.go; exact BF.go; exact BF.go; exact BM.go; exact BR.go; exact BR.go; exact BR.go; exact B1.go; exact BR.go)
        | (apply Ok.ag [1, 3, 11, 12, 13] ih0; exact BT.go; exact ⟨_, by omega, _, _, _, _, _, _, _, by first | rfl | (simp (disch := omega) only [go_sem, ↓reduceIte, eq_self, and_self]; done), by omega, H.out⟩; done)
        | (apply Ok.ag [1, 3, 11, 12, 13, 18, 19, 20] ih1; exact BT.go; exact ⟨_, by omega, _, _, _, _, _, _, _, _, _, _, by first | rfl | (simp (disch := omega) only [go_sem, ↓reduceIte, eq_self, and_self]; done), by omega, H.out⟩; done))))
   any_goals (
     intro q2_3 X hJ ih2
     clear H
     obtain ⟨x3, x32, x33, x34, rfl, hq, H⟩ := hJ
     (cases q2_3 with
      | zero => (simp only [impl_bodies.l2] at H; cases H)
      | succ kq2_3 =>
       simp only [impl_bodies.l2, List.length_append, List.length_cons, List.length_nil, Nat.zero_add, beq_dec, bne_dec, Bool.or_eq_true, Bool.and_eq_true, Bool.not_eq_true', decide_eq_true_eq, decide_eq_false_iff_not, ite_or', ite_and', ite_not', ge_iff_le, gt_iff_lt] at H
       repeat' first
        | (with_reducible replace H := sBindA H (by assumption))
        | (with_reducible replace H := sBindS H)
        | (with_reducible replace H := sBind H); obtain ⟨t, hA, H⟩ := H
        | (with_reducible replace H := sBool H); obtain ⟨c, H⟩ | ⟨c, H⟩ := H
        | (with_reducible replace H := sEq H); obtain ⟨c, c', H⟩ | ⟨c, c', H⟩ := H
        | (with_reducible replace H := sEqL H); obtain ⟨c, H⟩ | ⟨c, H⟩ := H
        | (with_reducible replace H := sIte H); obtain ⟨c, H⟩ | ⟨c, H⟩ := H
        | (with_reducible replace H := sAnd H); obtain ⟨c, H⟩ | ⟨c, H⟩ := H
        | (with_reducible replace H := sOr H); obtain ⟨c, H⟩ | ⟨c, H⟩ := H
       all_goals first
        | cases H
        | (exfalso; clear H; omega)
        | replace H := Hold.mk H
       all_goals (try simp only [List.length_append, List.length_cons, List.length_nil, Nat.zero_add] at *)
       all_goals repeat (first
        | apply Ok.seq
        | apply Ok.skip
        | (apply Ok.rN [0, 1, 2, 3, 5, 7, 9, 11, 12, 13, 14, 18, 19, 20, 21, 32, 33, 34, 35] hP hn hx; exact BR.go; exact BV.go)
        | (apply Ok.cn; exact BS.go)
        | apply Ok.block
        | apply Ok.inBlock
        | (apply Ok.ex; exact BR.go)
        | (apply Ok.bk #[.tmp 2] hC.out hP hx hF; exact BR.go; exact BF.go; exact BF.go; exact BF.go; exact BM.go; exact BR.go; exact BR.go; exact BR.go; exact B1.go; exact BR.go)
        | (apply Ok.ag [1, 3, 11, 12, 13] ih0; exact BT.go; exact ⟨_, by omega, _, _, _, _, _, _, _, by first | rfl | (simp (disch := omega) only [go_sem, ↓reduceIte, eq_self, and_self]; done), by omega, H.out⟩; done)
        | (apply Ok.ag [3, 32, 33, 34] ih2; exact BT.go; exact ⟨_, by omega, _, _, _, _, by first | rfl | (simp (disch := omega) only [go_sem, ↓reduceIte, eq_self, and_self]; done), by omega, H.out⟩; done)))))
set_option maxHeartbeats 8000000 in
theorem impl_ProgramOk_2.link (a0 : Int) (r : Bool) (H : impl_ProgramOk_2.f a0 = some r) : ACalls Try.prog 98 [.dat false [.sc (.int .i64 a0)]] [(false, [.sc (.bool r)])] [.dat false [.sc (.int .i64 a0)]] := by
 refine ACalls.enter Try.func98 (by kernel_rfl) rfl (by rw [Try.ntmps98]; exact Nat.le_of_ble_eq_true rfl) (fun C F hC hP hf hn hx => ?_)
 rw [Try.ntmps98] at hn
 have hF : Try.prog.funcs[C.fid]? = some Try.f98 := hf ▸ Try.func98
 replace hC := Hold.mk hC
 replace hx : C.fx = [] := hx
 simp only [entry, entE, enumM, rwA, rwC, Nat.reduceAdd] at ⊢
 simp only [impl_ProgramOk_2.f, List.length_append, List.length_cons, List.length_nil, Nat.zero_add, beq_dec, bne_dec, Bool.or_eq_true, Bool.and_eq_true, Bool.not_eq_true', decide_eq_true_eq, decide_eq_false_iff_not, ite_or', ite_and', ite_not', ge_iff_le, gt_iff_lt] at H
 repeat' first
  | (with_reducible replace H := sBindA H (by assumption))
  | (with_reducible replace H := sBindS H)
  | (with_reducible replace H := sBind H); obtain ⟨t, hA, H⟩ := H
  | (with_reducible replace H := sBool H); obtain ⟨c, H⟩ | ⟨c, H⟩ := H
  | (with_reducible replace H := sEq H); obtain ⟨c, c', H⟩ | ⟨c, c', H⟩ := H
  | (with_reducible replace H := sEqL H); obtain ⟨c, H⟩ | ⟨c, H⟩ := H
  | (with_reducible replace H := sIte H); obtain ⟨c, H⟩ | ⟨c, H⟩ := H
  | (with_reducible replace H := sAnd H); obtain ⟨c, H⟩ | ⟨c, H⟩ := H
  | (with_reducible replace H := sOr H); obtain ⟨c, H⟩ | ⟨c, H⟩ := H
 all_goals first
  | cases H
  | replace H := Hold.mk H
 all_goals repeat (first
  | apply Ok.seq
  | apply Ok.skip
  | (apply Ok.rN [0, 2] hP hn hx; exact BR.go; exact BV.go)
  | (apply Ok.cn; exact BS.go)
  | apply Ok.block
  | apply Ok.inBlock
  | (apply Ok.ex; exact BR.go)
  | (apply Ok.bk #[.tmp 2] hC.out hP hx hF; exact BR.go; exact BF.go; exact BF.go; exact BF.go; exact BM.go; exact BR.go; exact BR.go; exact BR.go; exact B1.go; exact BR.go))
end Go.Proofs.Ytmbkcbgbienjoaa.PFnExactProgramOk
