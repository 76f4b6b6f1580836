/- Functions' walks: each computes what its plain form says. No condition. -/
import Derived.Test.YtegeahiflkjhmaaLkFnExactSameProgramh
import Derived.Test.YtegeahiflkjhmaaLkFnExactSameProgramd
open Go Go.Proofs Go.Proofs.Ytegeahiflkjhmaa.Abs
namespace Go.Proofs.Ytegeahiflkjhmaa.PFnExactSameProgram
open Go.RowKit Go.Proofs.YtegeahiflkjhmaaW.PrintWords Go.Proofs.YtegeahiflkjhmaaW.PrintLast Go.Proofs.YtegeahiflkjhmaaW.PrintMore
set_option linter.unusedVariables false
set_option linter.unusedSimpArgs false
set_option maxRecDepth 100000
attribute [local irreducible] evK evQ evM evF evW evH goE goK goKD goQ goQD goD Ok ACalls
set_option maxHeartbeats 8000000 in
theorem spec_SameProgram.link (k : Nat) (l0_0 : List (S132)) (l0_1 : List (S114)) (l0_2 : List (S130)) (l1_0 : List (S132)) (l1_1 : List (S114)) (l1_2 : List (S130)) (r : Bool) (H : spec_SameProgram.f k l0_0 l0_1 l0_2 l1_0 l1_1 l1_2 = some r) : ACalls Try.prog 53 [.dat true [.sl none 6 (List.flatMap e132 l0_0), .sl none 4 (List.flatMap e114 l0_1), .sl none 4 (List.flatMap e130 l0_2)], .dat true [.sl none 6 (List.flatMap e132 l1_0), .sl none 4 (List.flatMap e114 l1_1), .sl none 4 (List.flatMap e130 l1_2)]] [(false, [.sc (.bool r)])] [.dat true [.sl none 6 (List.flatMap e132 l0_0), .sl none 4 (List.flatMap e114 l0_1), .sl none 4 (List.flatMap e130 l0_2)], .dat true [.sl none 6 (List.flatMap e132 l1_0), .sl none 4 (List.flatMap e114 l1_1), .sl none 4 (List.flatMap e130 l1_2)]] := by
 refine ACalls.enter Try.func53 (by kernel_rfl) rfl (by rw [Try.ntmps53]; exact Nat.le_of_ble_eq_true rfl) (fun C F hC hP hf hn hx => ?_)
 rw [Try.ntmps53] at hn
 have hF : Try.prog.funcs[C.fid]? = some Try.f53 := hf ▸ Try.func53
 replace hx : C.fx = [] := hx
 simp only [entry, entE, enumM, rwA, rwC, Nat.reduceAdd] at ⊢
 simp only [spec_SameProgram.f] at H
 replace H := Hold.mk H
 repeat (first
  | refine Ok.cutR 1 (fun X => ∃ x39, ∃ x265000, ∃ x265001, ∃ x265002, ∃ x266000, ∃ x266001, ∃ x266002, ∃ q, X = ⟨[(2, .pl 0 none 0), (3, .pl 1 none 0), (39, .dat false [.sc (.bool x39)])], [(0, .mem [.sl none 6 (List.flatMap e132 x265000), .sl none 4 (List.flatMap e114 x265001), .sl none 4 (List.flatMap e130 x265002)]), (1, .mem [.sl none 6 (List.flatMap e132 x266000), .sl none 4 (List.flatMap e114 x266001), .sl none 4 (List.flatMap e130 x266002)])]⟩ ∧ q ≤ k ∧ spec_SameProgram.j0 q x39 x265000 x265001 x265002 x266000 x266001 x266002 = some r) ?_ ?_
  | apply Ok.seq
  | apply Ok.skip
  | (apply Ok.rN [0, 1, 2, 3, 4, 5, 6, 7, 8, 9, 10, 11, 12, 13, 14, 39, 44, 97, 102, 144, 149, 162, 167, 207] hP hn hx; exact BR.go; exact BV.go)
  | (apply Ok.gS)
  | (apply Ok.cn; exact BS.go)
  | apply Ok.block
  | apply Ok.inBlock
  | refine Ok.exit ?_ rfl
  | (apply Ok.rD [0, 1, 2, 3, 4, 5, 6, 7, 8, 9, 10, 11, 12, 13, 14, 39, 44, 97, 102, 144, 149, 162, 167, 207] hP hn hx mo; exact BK.go; exact BX.go)
  | (apply goE.e [0, 1, 2, 3, 4, 5, 6, 7, 8, 9, 10, 11, 12, 13, 14, 39, 44, 97, 102, 144, 149, 162, 167, 207] hP hn hx; exact BR.go; exact BV.go)
  | (apply goE.n hP hn hx; exact BR.go; exact BJ.go; exact BU.go)
  | (apply goE.q; exact BR.go; exact BG.go; exact BW.go)
  | (apply goQ.t hP; exact BR.go; exact BR.go; exact BS.go)
  | (apply goQ.f hx; exact BR.go; exact BR.go; exact BE.go)
  | (apply goK.k hP hn hx; exact spec_l06Ints.link _ _ _ _ (by assumption); exact BS.go)
  | (apply goK.k hP hn hx; exact spec_l06Texts.link _ _ _ _ (by assumption); exact BS.go)
  | (apply Ok.bk #[.tmp 4] hC hP hx hF; exact BR.go; exact BF.go; exact BF.go; exact BF.go; exact BM.go; exact BR.go; exact BR.go; exact BR.go; exact B1.go; exact BR.go))
 · intro hjj0
   replace H := H.out
   (try simp only [beq_dec, bne_dec, Bool.or_eq_true, Bool.and_eq_true, Bool.not_eq_true', decide_eq_true_eq, decide_eq_false_iff_not, ite_or', ite_and', ite_not', ge_iff_le, gt_iff_lt] at H)
   repeat' first
    | (with_reducible replace H := sBindA H (by assumption))
    | (with_reducible replace H := sBind H); obtain ⟨t, hA, H⟩ := H
    | (with_reducible replace H := sBool H); obtain ⟨c, H⟩ | ⟨c, H⟩ := H
    | (with_reducible replace H := sEq H); obtain ⟨c, c', H⟩ | ⟨c, c', H⟩ := H
    | (with_reducible replace H := sEqL H); obtain ⟨c, H⟩ | ⟨c, H⟩ := H
    | (with_reducible replace H := sIte H); obtain ⟨c, H⟩ | ⟨c, H⟩ := H
    | (with_reducible replace H := sAnd H); obtain ⟨c, H⟩ | ⟨c, H⟩ := H
    | (with_reducible replace H := sOr H); obtain ⟨c, H⟩ | ⟨c, H⟩ := H
   all_goals first
    | cases H
    | replace H := Hold.mk H
   all_goals repeat (first
    | (apply Ok.mt [2, 3, 39] hjj0; exact BT.go; exact ⟨_, _, _, _, _, _, _, k, by first | rfl | (simp (disch := omega) only [go_sem, ↓reduceIte, eq_self, and_self]; done), by omega, by first | exact H.out | (have h0 := H.out; simp only [*, go_sem, ↓reduceIte, reduceCtorEq] at h0 ⊢; exact h0)⟩; done)
    | apply Ok.seq
    | apply Ok.skip
    | (apply Ok.rN [0, 1, 2, 3, 4, 5, 6, 7, 8, 9, 10, 11, 12, 13, 14, 39, 44, 97, 102, 144, 149, 162, 167, 207] hP hn hx; exact BR.go; exact BV.go)
    | (apply Ok.gS)
    | (apply Ok.cn; exact BS.go)
    | apply Ok.block
    | apply Ok.inBlock
    | refine Ok.exit ?_ rfl
    | (apply Ok.rD [0, 1, 2, 3, 4, 5, 6, 7, 8, 9, 10, 11, 12, 13, 14, 39, 44, 97, 102, 144, 149, 162, 167, 207] hP hn hx mo; exact BK.go; exact BX.go)
    | (apply goE.e [0, 1, 2, 3, 4, 5, 6, 7, 8, 9, 10, 11, 12, 13, 14, 39, 44, 97, 102, 144, 149, 162, 167, 207] hP hn hx; exact BR.go; exact BV.go)
    | (apply goE.n hP hn hx; exact BR.go; exact BJ.go; exact BU.go)
    | (apply goE.q; exact BR.go; exact BG.go; exact BW.go)
    | (apply goQ.t hP; exact BR.go; exact BR.go; exact BS.go)
    | (apply goQ.f hx; exact BR.go; exact BR.go; exact BE.go)
    | (apply goK.k hP hn hx; exact spec_l06Ints.link _ _ _ _ (by assumption); exact BS.go)
    | (apply goK.k hP hn hx; exact spec_l06Texts.link _ _ _ _ (by assumption); exact BS.go)
    | (apply Ok.bk #[.tmp 4] hC hP hx hF; exact BR.go; exact BF.go; exact BF.go; exact BF.go; exact BM.go; exact BR.go; exact BR.go; exact BR.go; exact B1.go; exact BR.go))
 · clear H
   intro X hJ
   obtain ⟨x39, x265000, x265001, x265002, x266000, x266001, x266002, qj0_1, rfl, hq, H⟩ := hJ
   (cases qj0_1 with
    | zero => (simp only [spec_SameProgram.j0] at H; cases H)
    | succ kqj0_1 =>
     simp only [spec_SameProgram.j0, beq_dec, bne_dec, Bool.or_eq_true, Bool.and_eq_true, Bool.not_eq_true', decide_eq_true_eq, decide_eq_false_iff_not, ite_or', ite_and', ite_not', ge_iff_le, gt_iff_lt] at H
     repeat' first
      | (with_reducible replace H := sBindA H (by assumption))
      | (with_reducible replace H := sBind H); obtain ⟨t, hA, H⟩ := H
      | (with_reducible replace H := sBool H); obtain ⟨c, H⟩ | ⟨c, H⟩ := H
      | (with_reducible replace H := sEq H); obtain ⟨c, c', H⟩ | ⟨c, c', H⟩ := H
      | (with_reducible replace H := sEqL H); obtain ⟨c, H⟩ | ⟨c, H⟩ := H
      | (with_reducible replace H := sIte H); obtain ⟨c, H⟩ | ⟨c, H⟩ := H
      | (with_reducible replace H := sAnd H); obtain ⟨c, H⟩ | ⟨c, H⟩ := H
      | (with_reducible replace H := sOr H); obtain ⟨c, H⟩ | ⟨c, H⟩ := H
     all_goals first
      | cases H
      | replace H := Hold.mk H
     all_goals repeat (first
      | apply Ok.seq
      | apply Ok.skip
      | (apply Ok.rN [0, 1, 2, 3, 4, 5, 6, 7, 8, 9, 10, 11, 12, 13, 14, 39, 44, 97, 102, 144, 149, 162, 167, 207] hP hn hx; exact BR.go; exact BV.go)
      | (apply Ok.gS)
      | (apply Ok.cn; exact BS.go)
      | apply Ok.block
      | apply Ok.inBlock
      | refine Ok.exit ?_ rfl
      | (apply Ok.rD [0, 1, 2, 3, 4, 5, 6, 7, 8, 9, 10, 11, 12, 13, 14, 39, 44, 97, 102, 144, 149, 162, 167, 207] hP hn hx mo; exact BK.go; exact BX.go)
      | (apply goE.e [0, 1, 2, 3, 4, 5, 6, 7, 8, 9, 10, 11, 12, 13, 14, 39, 44, 97, 102, 144, 149, 162, 167, 207] hP hn hx; exact BR.go; exact BV.go)
      | (apply goE.n hP hn hx; exact BR.go; exact BJ.go; exact BU.go)
      | (apply goE.q; exact BR.go; exact BG.go; exact BW.go)
      | (apply goQ.t hP; exact BR.go; exact BR.go; exact BS.go)
      | (apply goQ.f hx; exact BR.go; exact BR.go; exact BE.go)
      | (apply goK.k hP hn hx; exact spec_l06Ints.link _ _ _ _ (by assumption); exact BS.go)
      | (apply goK.k hP hn hx; exact spec_l06Texts.link _ _ _ _ (by assumption); exact BS.go)
      | (apply Ok.bk #[.tmp 4] hC hP hx hF; exact BR.go; exact BF.go; exact BF.go; exact BF.go; exact BM.go; exact BR.go; exact BR.go; exact BR.go; exact B1.go; exact BR.go)
      | (apply Ok.lq [2, 3, 5] (fun q X => ∃ x5, ∃ x265000, ∃ x265001, ∃ x265002, ∃ x266000, ∃ x266001, ∃ x266002, X = ⟨[(2, .pl 0 none 0), (3, .pl 1 none 0), (5, .dat false [.sc (.int .i64 x5)])], [(0, .mem [.sl none 6 (List.flatMap e132 x265000), .sl none 4 (List.flatMap e114 x265001), .sl none 4 (List.flatMap e130 x265002)]), (1, .mem [.sl none 6 (List.flatMap e132 x266000), .sl none 4 (List.flatMap e114 x266001), .sl none 4 (List.flatMap e130 x266002)])]⟩ ∧ q ≤ kqj0_1 ∧ spec_SameProgram.l0 q x5 x265000 x265001 x265002 x266000 x266001 x266002 = some r); exact BT.go; exact ⟨_, _, _, _, _, _, _, _, by first | rfl | (simp (disch := omega) only [go_sem, ↓reduceIte, eq_self, and_self]; done), by omega, H.out⟩))
     all_goals intro q0_2 X hJ ih0
     all_goals clear H
     all_goals obtain ⟨x5, x265000, x265001, x265002, x266000, x266001, x266002, rfl, hq, H⟩ := hJ
     all_goals (cases q0_2 with
      | zero => (simp only [spec_SameProgram.l0] at H; cases H)
      | succ kq0_2 =>
       simp only [spec_SameProgram.l0] at H
       replace H := Hold.mk H
       obtain ⟨H, H0⟩ | ⟨H, H0⟩ := sIteU H.out
       · (try simp only [beq_dec, bne_dec, Bool.or_eq_true, Bool.and_eq_true, Bool.not_eq_true', decide_eq_true_eq, decide_eq_false_iff_not, ite_or', ite_and', ite_not', ge_iff_le, gt_iff_lt] at H)
         repeat' first
          | (with_reducible replace H := sBindA H (by assumption))
          | (with_reducible replace H := sBind H); obtain ⟨t, hA, H⟩ := H
          | (with_reducible replace H := sBool H); obtain ⟨c, H⟩ | ⟨c, H⟩ := H
          | (with_reducible replace H := sEq H); obtain ⟨c, c', H⟩ | ⟨c, c', H⟩ := H
          | (with_reducible replace H := sEqL H); obtain ⟨c, H⟩ | ⟨c, H⟩ := H
          | (with_reducible replace H := sIte H); obtain ⟨c, H⟩ | ⟨c, H⟩ := H
          | (with_reducible replace H := sAnd H); obtain ⟨c, H⟩ | ⟨c, H⟩ := H
          | (with_reducible replace H := sOr H); obtain ⟨c, H⟩ | ⟨c, H⟩ := H
         all_goals cases H
         all_goals (replace H0 := Hold.mk H0; have H := H0; clear H0)
         all_goals (
          obtain ⟨H, H0⟩ | ⟨H, H0⟩ := sIteU H.out
          · (try simp only [beq_dec, bne_dec, Bool.or_eq_true, Bool.and_eq_true, Bool.not_eq_true', decide_eq_true_eq, decide_eq_false_iff_not, ite_or', ite_and', ite_not', ge_iff_le, gt_iff_lt] at H)
            repeat' first
             | (with_reducible replace H := sBindA H (by assumption))
             | (with_reducible replace H := sBind H); obtain ⟨t, hA, H⟩ := H
             | (with_reducible replace H := sBool H); obtain ⟨c, H⟩ | ⟨c, H⟩ := H
             | (with_reducible replace H := sEq H); obtain ⟨c, c', H⟩ | ⟨c, c', H⟩ := H
             | (with_reducible replace H := sEqL H); obtain ⟨c, H⟩ | ⟨c, H⟩ := H
             | (with_reducible replace H := sIte H); obtain ⟨c, H⟩ | ⟨c, H⟩ := H
             | (with_reducible replace H := sAnd H); obtain ⟨c, H⟩ | ⟨c, H⟩ := H
             | (with_reducible replace H := sOr H); obtain ⟨c, H⟩ | ⟨c, H⟩ := H
            all_goals cases H
            all_goals (replace H0 := Hold.mk H0; have H := H0; clear H0)
            all_goals (
             obtain ⟨H, H0⟩ | ⟨H, H0⟩ := sIteU H.out
             · (try simp only [beq_dec, bne_dec, Bool.or_eq_true, Bool.and_eq_true, Bool.not_eq_true', decide_eq_true_eq, decide_eq_false_iff_not, ite_or', ite_and', ite_not', ge_iff_le, gt_iff_lt] at H)
               repeat' first
                | (with_reducible replace H := sBindA H (by assumption))
                | (with_reducible replace H := sBind H); obtain ⟨t, hA, H⟩ := H
                | (with_reducible replace H := sBool H); obtain ⟨c, H⟩ | ⟨c, H⟩ := H
                | (with_reducible replace H := sEq H); obtain ⟨c, c', H⟩ | ⟨c, c', H⟩ := H
                | (with_reducible replace H := sEqL H); obtain ⟨c, H⟩ | ⟨c, H⟩ := H
                | (with_reducible replace H := sIte H); obtain ⟨c, H⟩ | ⟨c, H⟩ := H
                | (with_reducible replace H := sAnd H); obtain ⟨c, H⟩ | ⟨c, H⟩ := H
                | (with_reducible replace H := sOr H); obtain ⟨c, H⟩ | ⟨c, H⟩ := H
               all_goals cases H
               all_goals (replace H0 := Hold.mk H0; have H := H0; clear H0)
               all_goals (
                repeat (first
                 | refine Ok.cutR 8 (fun X => ∃ x5, ∃ x97, ∃ x265000, ∃ x265001, ∃ x265002, ∃ x266000, ∃ x266001, ∃ x266002, ∃ q, X = ⟨[(2, .pl 0 none 0), (3, .pl 1 none 0), (5, .dat false [.sc (.int .i64 x5)]), (97, .dat false [.sc (.bool x97)])], [(0, .mem [.sl none 6 (List.flatMap e132 x265000), .sl none 4 (List.flatMap e114 x265001), .sl none 4 (List.flatMap e130 x265002)]), (1, .mem [.sl none 6 (List.flatMap e132 x266000), .sl none 4 (List.flatMap e114 x266001), .sl none 4 (List.flatMap e130 x266002)])]⟩ ∧ q ≤ kq0_2 ∧ spec_SameProgram.j2 q x5 x97 x265000 x265001 x265002 x266000 x266001 x266002 = some r) ?_ ?_
                 | apply Ok.seq
                 | apply Ok.skip
                 | (apply Ok.rN [0, 1, 2, 3, 4, 5, 6, 7, 8, 9, 10, 11, 12, 13, 14, 39, 44, 97, 102, 144, 149, 162, 167, 207] hP hn hx; exact BR.go; exact BV.go)
                 | (apply Ok.gS)
                 | (apply Ok.cn; exact BS.go)
                 | apply Ok.block
                 | apply Ok.inBlock
                 | refine Ok.exit ?_ rfl
                 | (apply Ok.rD [0, 1, 2, 3, 4, 5, 6, 7, 8, 9, 10, 11, 12, 13, 14, 39, 44, 97, 102, 144, 149, 162, 167, 207] hP hn hx mo; exact BK.go; exact BX.go)
                 | (apply goE.e [0, 1, 2, 3, 4, 5, 6, 7, 8, 9, 10, 11, 12, 13, 14, 39, 44, 97, 102, 144, 149, 162, 167, 207] hP hn hx; exact BR.go; exact BV.go)
                 | (apply goE.n hP hn hx; exact BR.go; exact BJ.go; exact BU.go)
                 | (apply goE.q; exact BR.go; exact BG.go; exact BW.go)
                 | (apply goQ.t hP; exact BR.go; exact BR.go; exact BS.go)
                 | (apply goQ.f hx; exact BR.go; exact BR.go; exact BE.go)
                 | (apply goK.k hP hn hx; exact spec_l06Ints.link _ _ _ _ (by assumption); exact BS.go)
                 | (apply goK.k hP hn hx; exact spec_l06Texts.link _ _ _ _ (by assumption); exact BS.go)
                 | (apply Ok.bk #[.tmp 4] hC hP hx hF; exact BR.go; exact BF.go; exact BF.go; exact BF.go; exact BM.go; exact BR.go; exact BR.go; exact BR.go; exact B1.go; exact BR.go))
                · intro hjj2
                  replace H := H.out
                  (try simp only [beq_dec, bne_dec, Bool.or_eq_true, Bool.and_eq_true, Bool.not_eq_true', decide_eq_true_eq, decide_eq_false_iff_not, ite_or', ite_and', ite_not', ge_iff_le, gt_iff_lt] at H)
                  repeat' first
                   | (with_reducible replace H := sBindA H (by assumption))
                   | (with_reducible replace H := sBind H); obtain ⟨t, hA, H⟩ := H
                   | (with_reducible replace H := sBool H); obtain ⟨c, H⟩ | ⟨c, H⟩ := H
                   | (with_reducible replace H := sEq H); obtain ⟨c, c', H⟩ | ⟨c, c', H⟩ := H
                   | (with_reducible replace H := sEqL H); obtain ⟨c, H⟩ | ⟨c, H⟩ := H
                   | (with_reducible replace H := sIte H); obtain ⟨c, H⟩ | ⟨c, H⟩ := H
                   | (with_reducible replace H := sAnd H); obtain ⟨c, H⟩ | ⟨c, H⟩ := H
                   | (with_reducible replace H := sOr H); obtain ⟨c, H⟩ | ⟨c, H⟩ := H
                  all_goals first
                   | cases H
                   | replace H := Hold.mk H
                  all_goals repeat (first
                   | (apply Ok.mt [2, 3, 5, 97] hjj2; exact BT.go; exact ⟨_, _, _, _, _, _, _, _, kq0_2, by first | rfl | (simp (disch := omega) only [go_sem, ↓reduceIte, eq_self, and_self]; done), by omega, by first | exact H.out | (have h0 := H.out; simp only [*, go_sem, ↓reduceIte, reduceCtorEq] at h0 ⊢; exact h0)⟩; done)
                   | apply Ok.seq
                   | apply Ok.skip
                   | (apply Ok.rN [0, 1, 2, 3, 4, 5, 6, 7, 8, 9, 10, 11, 12, 13, 14, 39, 44, 97, 102, 144, 149, 162, 167, 207] hP hn hx; exact BR.go; exact BV.go)
                   | (apply Ok.gS)
                   | (apply Ok.cn; exact BS.go)
                   | apply Ok.block
                   | apply Ok.inBlock
                   | refine Ok.exit ?_ rfl
                   | (apply Ok.rD [0, 1, 2, 3, 4, 5, 6, 7, 8, 9, 10, 11, 12, 13, 14, 39, 44, 97, 102, 144, 149, 162, 167, 207] hP hn hx mo; exact BK.go; exact BX.go)
                   | (apply goE.e [0, 1, 2, 3, 4, 5, 6, 7, 8, 9, 10, 11, 12, 13, 14, 39, 44, 97, 102, 144, 149, 162, 167, 207] hP hn hx; exact BR.go; exact BV.go)
                   | (apply goE.n hP hn hx; exact BR.go; exact BJ.go; exact BU.go)
                   | (apply goE.q; exact BR.go; exact BG.go; exact BW.go)
                   | (apply goQ.t hP; exact BR.go; exact BR.go; exact BS.go)
                   | (apply goQ.f hx; exact BR.go; exact BR.go; exact BE.go)
                   | (apply goK.k hP hn hx; exact spec_l06Ints.link _ _ _ _ (by assumption); exact BS.go)
                   | (apply goK.k hP hn hx; exact spec_l06Texts.link _ _ _ _ (by assumption); exact BS.go)
                   | (apply Ok.bk #[.tmp 4] hC hP hx hF; exact BR.go; exact BF.go; exact BF.go; exact BF.go; exact BM.go; exact BR.go; exact BR.go; exact BR.go; exact B1.go; exact BR.go)
                   | (apply Ok.ag [2, 3, 5] ih0; exact BT.go; exact ⟨_, by omega, _, _, _, _, _, _, _, by first | rfl | (simp (disch := omega) only [go_sem, ↓reduceIte, eq_self, and_self]; done), by omega, H.out⟩; done))
                · clear H
                  intro X hJ
                  obtain ⟨x5, x97, x265000, x265001, x265002, x266000, x266001, x266002, qj2_3, rfl, hq, H⟩ := hJ
                  (cases qj2_3 with
                   | zero => (simp only [spec_SameProgram.j2] at H; cases H)
                   | succ kqj2_3 =>
                    simp only [spec_SameProgram.j2, beq_dec, bne_dec, Bool.or_eq_true, Bool.and_eq_true, Bool.not_eq_true', decide_eq_true_eq, decide_eq_false_iff_not, ite_or', ite_and', ite_not', ge_iff_le, gt_iff_lt] at H
                    repeat' first
                     | (with_reducible replace H := sBindA H (by assumption))
                     | (with_reducible replace H := sBind H); obtain ⟨t, hA, H⟩ := H
                     | (with_reducible replace H := sBool H); obtain ⟨c, H⟩ | ⟨c, H⟩ := H
                     | (with_reducible replace H := sEq H); obtain ⟨c, c', H⟩ | ⟨c, c', H⟩ := H
                     | (with_reducible replace H := sEqL H); obtain ⟨c, H⟩ | ⟨c, H⟩ := H
                     | (with_reducible replace H := sIte H); obtain ⟨c, H⟩ | ⟨c, H⟩ := H
                     | (with_reducible replace H := sAnd H); obtain ⟨c, H⟩ | ⟨c, H⟩ := H
                     | (with_reducible replace H := sOr H); obtain ⟨c, H⟩ | ⟨c, H⟩ := H
                    all_goals first
                     | cases H
                     | replace H := Hold.mk H
                    all_goals repeat (first
                     | apply Ok.seq
                     | apply Ok.skip
                     | (apply Ok.rN [0, 1, 2, 3, 4, 5, 6, 7, 8, 9, 10, 11, 12, 13, 14, 39, 44, 97, 102, 144, 149, 162, 167, 207] hP hn hx; exact BR.go; exact BV.go)
                     | (apply Ok.gS)
                     | (apply Ok.cn; exact BS.go)
                     | apply Ok.block
                     | apply Ok.inBlock
                     | refine Ok.exit ?_ rfl
                     | (apply Ok.rD [0, 1, 2, 3, 4, 5, 6, 7, 8, 9, 10, 11, 12, 13, 14, 39, 44, 97, 102, 144, 149, 162, 167, 207] hP hn hx mo; exact BK.go; exact BX.go)
                     | (apply goE.e [0, 1, 2, 3, 4, 5, 6, 7, 8, 9, 10, 11, 12, 13, 14, 39, 44, 97, 102, 144, 149, 162, 167, 207] hP hn hx; exact BR.go; exact BV.go)
                     | (apply goE.n hP hn hx; exact BR.go; exact BJ.go; exact BU.go)
                     | (apply goE.q; exact BR.go; exact BG.go; exact BW.go)
                     | (apply goQ.t hP; exact BR.go; exact BR.go; exact BS.go)
                     | (apply goQ.f hx; exact BR.go; exact BR.go; exact BE.go)
                     | (apply goK.k hP hn hx; exact spec_l06Ints.link _ _ _ _ (by assumption); exact BS.go)
                     | (apply goK.k hP hn hx; exact spec_l06Texts.link _ _ _ _ (by assumption); exact BS.go)
                     | (apply Ok.bk #[.tmp 4] hC hP hx hF; exact BR.go; exact BF.go; exact BF.go; exact BF.go; exact BM.go; exact BR.go; exact BR.go; exact BR.go; exact B1.go; exact BR.go)
                     | (apply Ok.ag [2, 3, 5] ih0; exact BT.go; exact ⟨_, by omega, _, _, _, _, _, _, _, by first | rfl | (simp (disch := omega) only [go_sem, ↓reduceIte, eq_self, and_self]; done), by omega, H.out⟩; done))))
             · (try simp only [beq_dec, bne_dec, Bool.or_eq_true, Bool.and_eq_true, Bool.not_eq_true', decide_eq_true_eq, decide_eq_false_iff_not, ite_or', ite_and', ite_not', ge_iff_le, gt_iff_lt] at H)
               repeat' first
                | (with_reducible replace H := sBindA H (by assumption))
                | (with_reducible replace H := sBind H); obtain ⟨t, hA, H⟩ := H
                | (with_reducible replace H := sBool H); obtain ⟨c, H⟩ | ⟨c, H⟩ := H
                | (with_reducible replace H := sEq H); obtain ⟨c, c', H⟩ | ⟨c, c', H⟩ := H
                | (with_reducible replace H := sEqL H); obtain ⟨c, H⟩ | ⟨c, H⟩ := H
                | (with_reducible replace H := sIte H); obtain ⟨c, H⟩ | ⟨c, H⟩ := H
                | (with_reducible replace H := sAnd H); obtain ⟨c, H⟩ | ⟨c, H⟩ := H
                | (with_reducible replace H := sOr H); obtain ⟨c, H⟩ | ⟨c, H⟩ := H
               all_goals cases H
               all_goals (replace H0 := Hold.mk H0; have H := H0; clear H0)
               all_goals (
                cases H.out))
          · (try simp only [beq_dec, bne_dec, Bool.or_eq_true, Bool.and_eq_true, Bool.not_eq_true', decide_eq_true_eq, decide_eq_false_iff_not, ite_or', ite_and', ite_not', ge_iff_le, gt_iff_lt] at H)
            repeat' first
             | (with_reducible replace H := sBindA H (by assumption))
             | (with_reducible replace H := sBind H); obtain ⟨t, hA, H⟩ := H
             | (with_reducible replace H := sBool H); obtain ⟨c, H⟩ | ⟨c, H⟩ := H
             | (with_reducible replace H := sEq H); obtain ⟨c, c', H⟩ | ⟨c, c', H⟩ := H
             | (with_reducible replace H := sEqL H); obtain ⟨c, H⟩ | ⟨c, H⟩ := H
             | (with_reducible replace H := sIte H); obtain ⟨c, H⟩ | ⟨c, H⟩ := H
             | (with_reducible replace H := sAnd H); obtain ⟨c, H⟩ | ⟨c, H⟩ := H
             | (with_reducible replace H := sOr H); obtain ⟨c, H⟩ | ⟨c, H⟩ := H
            all_goals cases H
            all_goals (replace H0 := Hold.mk H0; have H := H0; clear H0)
            all_goals (
             cases H.out))
       · (try simp only [beq_dec, bne_dec, Bool.or_eq_true, Bool.and_eq_true, Bool.not_eq_true', decide_eq_true_eq, decide_eq_false_iff_not, ite_or', ite_and', ite_not', ge_iff_le, gt_iff_lt] at H)
         repeat' first
          | (with_reducible replace H := sBindA H (by assumption))
          | (with_reducible replace H := sBind H); obtain ⟨t, hA, H⟩ := H
          | (with_reducible replace H := sBool H); obtain ⟨c, H⟩ | ⟨c, H⟩ := H
          | (with_reducible replace H := sEq H); obtain ⟨c, c', H⟩ | ⟨c, c', H⟩ := H
          | (with_reducible replace H := sEqL H); obtain ⟨c, H⟩ | ⟨c, H⟩ := H
          | (with_reducible replace H := sIte H); obtain ⟨c, H⟩ | ⟨c, H⟩ := H
          | (with_reducible replace H := sAnd H); obtain ⟨c, H⟩ | ⟨c, H⟩ := H
          | (with_reducible replace H := sOr H); obtain ⟨c, H⟩ | ⟨c, H⟩ := H
         all_goals cases H
         all_goals (replace H0 := Hold.mk H0; have H := H0; clear H0)
         all_goals (
          replace H := H.out
          (try simp only [beq_dec, bne_dec, Bool.or_eq_true, Bool.and_eq_true, Bool.not_eq_true', decide_eq_true_eq, decide_eq_false_iff_not, ite_or', ite_and', ite_not', ge_iff_le, gt_iff_lt] at H)
          repeat' first
           | (with_reducible replace H := sBindA H (by assumption))
           | (with_reducible replace H := sBind H); obtain ⟨t, hA, H⟩ := H
           | (with_reducible replace H := sBool H); obtain ⟨c, H⟩ | ⟨c, H⟩ := H
           | (with_reducible replace H := sEq H); obtain ⟨c, c', H⟩ | ⟨c, c', H⟩ := H
           | (with_reducible replace H := sEqL H); obtain ⟨c, H⟩ | ⟨c, H⟩ := H
           | (with_reducible replace H := sIte H); obtain ⟨c, H⟩ | ⟨c, H⟩ := H
           | (with_reducible replace H := sAnd H); obtain ⟨c, H⟩ | ⟨c, H⟩ := H
           | (with_reducible replace H := sOr H); obtain ⟨c, H⟩ | ⟨c, H⟩ := H
          all_goals first
           | cases H
           | replace H := Hold.mk H
          all_goals repeat (first
           | apply Ok.seq
           | apply Ok.skip
           | (apply Ok.rN [0, 1, 2, 3, 4, 5, 6, 7, 8, 9, 10, 11, 12, 13, 14, 39, 44, 97, 102, 144, 149, 162, 167, 207] hP hn hx; exact BR.go; exact BV.go)
           | (apply Ok.gS)
           | (apply Ok.cn; exact BS.go)
           | apply Ok.block
           | apply Ok.inBlock
           | refine Ok.exit ?_ rfl
           | (apply Ok.rD [0, 1, 2, 3, 4, 5, 6, 7, 8, 9, 10, 11, 12, 13, 14, 39, 44, 97, 102, 144, 149, 162, 167, 207] hP hn hx mo; exact BK.go; exact BX.go)
           | (apply goE.e [0, 1, 2, 3, 4, 5, 6, 7, 8, 9, 10, 11, 12, 13, 14, 39, 44, 97, 102, 144, 149, 162, 167, 207] hP hn hx; exact BR.go; exact BV.go)
           | (apply goE.n hP hn hx; exact BR.go; exact BJ.go; exact BU.go)
           | (apply goE.q; exact BR.go; exact BG.go; exact BW.go)
           | (apply goQ.t hP; exact BR.go; exact BR.go; exact BS.go)
           | (apply goQ.f hx; exact BR.go; exact BR.go; exact BE.go)
           | (apply goK.k hP hn hx; exact spec_l06Ints.link _ _ _ _ (by assumption); exact BS.go)
           | (apply goK.k hP hn hx; exact spec_l06Texts.link _ _ _ _ (by assumption); exact BS.go)
           | (apply Ok.bk #[.tmp 4] hC hP hx hF; exact BR.go; exact BF.go; exact BF.go; exact BF.go; exact BM.go; exact BR.go; exact BR.go; exact BR.go; exact B1.go; exact BR.go)
           | (apply Ok.ag [2, 3, 5] ih0; exact BT.go; exact ⟨_, by omega, _, _, _, _, _, _, _, by first | rfl | (simp (disch := omega) only [go_sem, ↓reduceIte, eq_self, and_self]; done), by omega, H.out⟩; done)
           | (apply Ok.lq [2, 3, 8] (fun q X => ∃ x8, ∃ x265000, ∃ x265001, ∃ x265002, ∃ x266000, ∃ x266001, ∃ x266002, X = ⟨[(2, .pl 0 none 0), (3, .pl 1 none 0), (8, .dat false [.sc (.int .i64 x8)])], [(0, .mem [.sl none 6 (List.flatMap e132 x265000), .sl none 4 (List.flatMap e114 x265001), .sl none 4 (List.flatMap e130 x265002)]), (1, .mem [.sl none 6 (List.flatMap e132 x266000), .sl none 4 (List.flatMap e114 x266001), .sl none 4 (List.flatMap e130 x266002)])]⟩ ∧ q ≤ kq0_2 ∧ spec_SameProgram.l1 q x8 x265000 x265001 x265002 x266000 x266001 x266002 = some r); exact BT.go; exact ⟨_, _, _, _, _, _, _, _, by first | rfl | (simp (disch := omega) only [go_sem, ↓reduceIte, eq_self, and_self]; done), by omega, H.out⟩))
          all_goals intro q1_4 X hJ ih1
          all_goals clear H
          all_goals obtain ⟨x8, x265000, x265001, x265002, x266000, x266001, x266002, rfl, hq, H⟩ := hJ
          all_goals (cases q1_4 with
           | zero => (simp only [spec_SameProgram.l1] at H; cases H)
           | succ kq1_4 =>
            simp only [spec_SameProgram.l1] at H
            replace H := Hold.mk H
            obtain ⟨H, H0⟩ | ⟨H, H0⟩ := sIteU H.out
            · (try simp only [beq_dec, bne_dec, Bool.or_eq_true, Bool.and_eq_true, Bool.not_eq_true', decide_eq_true_eq, decide_eq_false_iff_not, ite_or', ite_and', ite_not', ge_iff_le, gt_iff_lt] at H)
              repeat' first
               | (with_reducible replace H := sBindA H (by assumption))
               | (with_reducible replace H := sBind H); obtain ⟨t, hA, H⟩ := H
               | (with_reducible replace H := sBool H); obtain ⟨c, H⟩ | ⟨c, H⟩ := H
               | (with_reducible replace H := sEq H); obtain ⟨c, c', H⟩ | ⟨c, c', H⟩ := H
               | (with_reducible replace H := sEqL H); obtain ⟨c, H⟩ | ⟨c, H⟩ := H
               | (with_reducible replace H := sIte H); obtain ⟨c, H⟩ | ⟨c, H⟩ := H
               | (with_reducible replace H := sAnd H); obtain ⟨c, H⟩ | ⟨c, H⟩ := H
               | (with_reducible replace H := sOr H); obtain ⟨c, H⟩ | ⟨c, H⟩ := H
              all_goals cases H
              all_goals (replace H0 := Hold.mk H0; have H := H0; clear H0)
              all_goals (
               obtain ⟨H, H0⟩ | ⟨H, H0⟩ := sIteU H.out
               · (try simp only [beq_dec, bne_dec, Bool.or_eq_true, Bool.and_eq_true, Bool.not_eq_true', decide_eq_true_eq, decide_eq_false_iff_not, ite_or', ite_and', ite_not', ge_iff_le, gt_iff_lt] at H)
                 repeat' first
                  | (with_reducible replace H := sBindA H (by assumption))
                  | (with_reducible replace H := sBind H); obtain ⟨t, hA, H⟩ := H
                  | (with_reducible replace H := sBool H); obtain ⟨c, H⟩ | ⟨c, H⟩ := H
                  | (with_reducible replace H := sEq H); obtain ⟨c, c', H⟩ | ⟨c, c', H⟩ := H
                  | (with_reducible replace H := sEqL H); obtain ⟨c, H⟩ | ⟨c, H⟩ := H
                  | (with_reducible replace H := sIte H); obtain ⟨c, H⟩ | ⟨c, H⟩ := H
                  | (with_reducible replace H := sAnd H); obtain ⟨c, H⟩ | ⟨c, H⟩ := H
                  | (with_reducible replace H := sOr H); obtain ⟨c, H⟩ | ⟨c, H⟩ := H
                 all_goals cases H
                 all_goals (replace H0 := Hold.mk H0; have H := H0; clear H0)
                 all_goals (
                  obtain ⟨H, H0⟩ | ⟨H, H0⟩ := sIteU H.out
                  · (try simp only [beq_dec, bne_dec, Bool.or_eq_true, Bool.and_eq_true, Bool.not_eq_true', decide_eq_true_eq, decide_eq_false_iff_not, ite_or', ite_and', ite_not', ge_iff_le, gt_iff_lt] at H)
                    repeat' first
                     | (with_reducible replace H := sBindA H (by assumption))
                     | (with_reducible replace H := sBind H); obtain ⟨t, hA, H⟩ := H
                     | (with_reducible replace H := sBool H); obtain ⟨c, H⟩ | ⟨c, H⟩ := H
                     | (with_reducible replace H := sEq H); obtain ⟨c, c', H⟩ | ⟨c, c', H⟩ := H
                     | (with_reducible replace H := sEqL H); obtain ⟨c, H⟩ | ⟨c, H⟩ := H
                     | (with_reducible replace H := sIte H); obtain ⟨c, H⟩ | ⟨c, H⟩ := H
                     | (with_reducible replace H := sAnd H); obtain ⟨c, H⟩ | ⟨c, H⟩ := H
                     | (with_reducible replace H := sOr H); obtain ⟨c, H⟩ | ⟨c, H⟩ := H
                    all_goals cases H
                    all_goals (replace H0 := Hold.mk H0; have H := H0; clear H0)
                    all_goals (
                     repeat (first
                      | refine Ok.cutR 15 (fun X => ∃ x8, ∃ x144, ∃ x265000, ∃ x265001, ∃ x265002, ∃ x266000, ∃ x266001, ∃ x266002, ∃ x273000, ∃ x273001, ∃ x273002, ∃ x273003, ∃ x275000, ∃ x275001, ∃ x275002, ∃ x275003, ∃ q, X = ⟨[(2, .pl 0 none 0), (3, .pl 1 none 0), (8, .dat false [.sc (.int .i64 x8)]), (9, .pl 2 none 0), (10, .pl 3 none 0), (144, .dat false [.sc (.bool x144)])], [(0, .mem [.sl none 6 (List.flatMap e132 x265000), .sl none 4 (List.flatMap e114 x265001), .sl none 4 (List.flatMap e130 x265002)]), (1, .mem [.sl none 6 (List.flatMap e132 x266000), .sl none 4 (List.flatMap e114 x266001), .sl none 4 (List.flatMap e130 x266002)]), (2, .mem [.sc (.string x273000), .sl none 1 (List.flatMap eS x273001), .sl none 1 (List.flatMap eS x273002), .sl none 3 (List.flatMap e125 x273003)]), (3, .mem [.sc (.string x275000), .sl none 1 (List.flatMap eS x275001), .sl none 1 (List.flatMap eS x275002), .sl none 3 (List.flatMap e125 x275003)])]⟩ ∧ q ≤ kq1_4 ∧ spec_SameProgram.j4 q x8 x144 x265000 x265001 x265002 x266000 x266001 x266002 x273000 x273001 x273002 x273003 x275000 x275001 x275002 x275003 = some r) ?_ ?_
                      | apply Ok.seq
                      | apply Ok.skip
                      | (apply Ok.rN [0, 1, 2, 3, 4, 5, 6, 7, 8, 9, 10, 11, 12, 13, 14, 39, 44, 97, 102, 144, 149, 162, 167, 207] hP hn hx; exact BR.go; exact BV.go)
                      | (apply Ok.gS)
                      | (apply Ok.cn; exact BS.go)
                      | apply Ok.block
                      | apply Ok.inBlock
                      | refine Ok.exit ?_ rfl
                      | (apply Ok.rD [0, 1, 2, 3, 4, 5, 6, 7, 8, 9, 10, 11, 12, 13, 14, 39, 44, 97, 102, 144, 149, 162, 167, 207] hP hn hx mo; exact BK.go; exact BX.go)
                      | (apply goE.e [0, 1, 2, 3, 4, 5, 6, 7, 8, 9, 10, 11, 12, 13, 14, 39, 44, 97, 102, 144, 149, 162, 167, 207] hP hn hx; exact BR.go; exact BV.go)
                      | (apply goE.n hP hn hx; exact BR.go; exact BJ.go; exact BU.go)
                      | (apply goE.q; exact BR.go; exact BG.go; exact BW.go)
                      | (apply goQ.t hP; exact BR.go; exact BR.go; exact BS.go)
                      | (apply goQ.f hx; exact BR.go; exact BR.go; exact BE.go)
                      | (apply goK.k hP hn hx; exact spec_l06Ints.link _ _ _ _ (by assumption); exact BS.go)
                      | (apply goK.k hP hn hx; exact spec_l06Texts.link _ _ _ _ (by assumption); exact BS.go)
                      | (apply Ok.bk #[.tmp 4] hC hP hx hF; exact BR.go; exact BF.go; exact BF.go; exact BF.go; exact BM.go; exact BR.go; exact BR.go; exact BR.go; exact B1.go; exact BR.go))
                     · intro hjj4
                       replace H := H.out
                       (try simp only [beq_dec, bne_dec, Bool.or_eq_true, Bool.and_eq_true, Bool.not_eq_true', decide_eq_true_eq, decide_eq_false_iff_not, ite_or', ite_and', ite_not', ge_iff_le, gt_iff_lt] at H)
                       repeat' first
                        | (with_reducible replace H := sBindA H (by assumption))
                        | (with_reducible replace H := sBind H); obtain ⟨t, hA, H⟩ := H
                        | (with_reducible replace H := sBool H); obtain ⟨c, H⟩ | ⟨c, H⟩ := H
                        | (with_reducible replace H := sEq H); obtain ⟨c, c', H⟩ | ⟨c, c', H⟩ := H
                        | (with_reducible replace H := sEqL H); obtain ⟨c, H⟩ | ⟨c, H⟩ := H
                        | (with_reducible replace H := sIte H); obtain ⟨c, H⟩ | ⟨c, H⟩ := H
                        | (with_reducible replace H := sAnd H); obtain ⟨c, H⟩ | ⟨c, H⟩ := H
                        | (with_reducible replace H := sOr H); obtain ⟨c, H⟩ | ⟨c, H⟩ := H
                       all_goals first
                        | cases H
                        | replace H := Hold.mk H
                       all_goals repeat (first
                        | (apply Ok.mt [2, 3, 8, 9, 10, 144] hjj4; exact BT.go; exact ⟨_, _, _, _, _, _, _, _, _, _, _, _, _, _, _, _, kq1_4, by first | rfl | (simp (disch := omega) only [go_sem, ↓reduceIte, eq_self, and_self]; done), by omega, by first | exact H.out | (have h0 := H.out; simp only [*, go_sem, ↓reduceIte, reduceCtorEq] at h0 ⊢; exact h0)⟩; done)
                        | apply Ok.seq
                        | apply Ok.skip
                        | (apply Ok.rN [0, 1, 2, 3, 4, 5, 6, 7, 8, 9, 10, 11, 12, 13, 14, 39, 44, 97, 102, 144, 149, 162, 167, 207] hP hn hx; exact BR.go; exact BV.go)
                        | (apply Ok.gS)
                        | (apply Ok.cn; exact BS.go)
                        | apply Ok.block
                        | apply Ok.inBlock
                        | refine Ok.exit ?_ rfl
                        | (apply Ok.rD [0, 1, 2, 3, 4, 5, 6, 7, 8, 9, 10, 11, 12, 13, 14, 39, 44, 97, 102, 144, 149, 162, 167, 207] hP hn hx mo; exact BK.go; exact BX.go)
                        | (apply goE.e [0, 1, 2, 3, 4, 5, 6, 7, 8, 9, 10, 11, 12, 13, 14, 39, 44, 97, 102, 144, 149, 162, 167, 207] hP hn hx; exact BR.go; exact BV.go)
                        | (apply goE.n hP hn hx; exact BR.go; exact BJ.go; exact BU.go)
                        | (apply goE.q; exact BR.go; exact BG.go; exact BW.go)
                        | (apply goQ.t hP; exact BR.go; exact BR.go; exact BS.go)
                        | (apply goQ.f hx; exact BR.go; exact BR.go; exact BE.go)
                        | (apply goK.k hP hn hx; exact spec_l06Ints.link _ _ _ _ (by assumption); exact BS.go)
                        | (apply goK.k hP hn hx; exact spec_l06Texts.link _ _ _ _ (by assumption); exact BS.go)
                        | (apply Ok.bk #[.tmp 4] hC hP hx hF; exact BR.go; exact BF.go; exact BF.go; exact BF.go; exact BM.go; exact BR.go; exact BR.go; exact BR.go; exact B1.go; exact BR.go)
                        | (apply Ok.ag [2, 3, 5] ih0; exact BT.go; exact ⟨_, by omega, _, _, _, _, _, _, _, by first | rfl | (simp (disch := omega) only [go_sem, ↓reduceIte, eq_self, and_self]; done), by omega, H.out⟩; done)
                        | (apply Ok.ag [2, 3, 8] ih1; exact BT.go; exact ⟨_, by omega, _, _, _, _, _, _, _, by first | rfl | (simp (disch := omega) only [go_sem, ↓reduceIte, eq_self, and_self]; done), by omega, H.out⟩; done))
                     · clear H
                       intro X hJ
                       obtain ⟨x8, x144, x265000, x265001, x265002, x266000, x266001, x266002, x273000, x273001, x273002, x273003, x275000, x275001, x275002, x275003, qj4_5, rfl, hq, H⟩ := hJ
                       (cases qj4_5 with
                        | zero => (simp only [spec_SameProgram.j4] at H; cases H)
                        | succ kqj4_5 =>
                         simp only [spec_SameProgram.j4, beq_dec, bne_dec, Bool.or_eq_true, Bool.and_eq_true, Bool.not_eq_true', decide_eq_true_eq, decide_eq_false_iff_not, ite_or', ite_and', ite_not', ge_iff_le, gt_iff_lt] at H
                         repeat' first
                          | (with_reducible replace H := sBindA H (by assumption))
                          | (with_reducible replace H := sBind H); obtain ⟨t, hA, H⟩ := H
                          | (with_reducible replace H := sBool H); obtain ⟨c, H⟩ | ⟨c, H⟩ := H
                          | (with_reducible replace H := sEq H); obtain ⟨c, c', H⟩ | ⟨c, c', H⟩ := H
                          | (with_reducible replace H := sEqL H); obtain ⟨c, H⟩ | ⟨c, H⟩ := H
                          | (with_reducible replace H := sIte H); obtain ⟨c, H⟩ | ⟨c, H⟩ := H
                          | (with_reducible replace H := sAnd H); obtain ⟨c, H⟩ | ⟨c, H⟩ := H
                          | (with_reducible replace H := sOr H); obtain ⟨c, H⟩ | ⟨c, H⟩ := H
                         all_goals first
                          | cases H
                          | replace H := Hold.mk H
                         all_goals repeat (first
                          | apply Ok.seq
                          | apply Ok.skip
                          | (apply Ok.rN [0, 1, 2, 3, 4, 5, 6, 7, 8, 9, 10, 11, 12, 13, 14, 39, 44, 97, 102, 144, 149, 162, 167, 207] hP hn hx; exact BR.go; exact BV.go)
                          | (apply Ok.gS)
                          | (apply Ok.cn; exact BS.go)
                          | apply Ok.block
                          | apply Ok.inBlock
                          | refine Ok.exit ?_ rfl
                          | (apply Ok.rD [0, 1, 2, 3, 4, 5, 6, 7, 8, 9, 10, 11, 12, 13, 14, 39, 44, 97, 102, 144, 149, 162, 167, 207] hP hn hx mo; exact BK.go; exact BX.go)
                          | (apply goE.e [0, 1, 2, 3, 4, 5, 6, 7, 8, 9, 10, 11, 12, 13, 14, 39, 44, 97, 102, 144, 149, 162, 167, 207] hP hn hx; exact BR.go; exact BV.go)
                          | (apply goE.n hP hn hx; exact BR.go; exact BJ.go; exact BU.go)
                          | (apply goE.q; exact BR.go; exact BG.go; exact BW.go)
                          | (apply goQ.t hP; exact BR.go; exact BR.go; exact BS.go)
                          | (apply goQ.f hx; exact BR.go; exact BR.go; exact BE.go)
                          | (apply goK.k hP hn hx; exact spec_l06Ints.link _ _ _ _ (by assumption); exact BS.go)
                          | (apply goK.k hP hn hx; exact spec_l06Texts.link _ _ _ _ (by assumption); exact BS.go)
                          | (apply Ok.bk #[.tmp 4] hC hP hx hF; exact BR.go; exact BF.go; exact BF.go; exact BF.go; exact BM.go; exact BR.go; exact BR.go; exact BR.go; exact B1.go; exact BR.go)
                          | (apply Ok.ag [2, 3, 5] ih0; exact BT.go; exact ⟨_, by omega, _, _, _, _, _, _, _, by first | rfl | (simp (disch := omega) only [go_sem, ↓reduceIte, eq_self, and_self]; done), by omega, H.out⟩; done)
                          | (apply Ok.ag [2, 3, 8] ih1; exact BT.go; exact ⟨_, by omega, _, _, _, _, _, _, _, by first | rfl | (simp (disch := omega) only [go_sem, ↓reduceIte, eq_self, and_self]; done), by omega, H.out⟩; done)
                          | (apply Ok.lq [2, 3, 8, 9, 10, 11] (fun q X => ∃ x8, ∃ x11, ∃ x265000, ∃ x265001, ∃ x265002, ∃ x266000, ∃ x266001, ∃ x266002, ∃ x273000, ∃ x273001, ∃ x273002, ∃ x273003, ∃ x275000, ∃ x275001, ∃ x275002, ∃ x275003, X = ⟨[(2, .pl 0 none 0), (3, .pl 1 none 0), (8, .dat false [.sc (.int .i64 x8)]), (9, .pl 2 none 0), (10, .pl 3 none 0), (11, .dat false [.sc (.int .i64 x11)])], [(0, .mem [.sl none 6 (List.flatMap e132 x265000), .sl none 4 (List.flatMap e114 x265001), .sl none 4 (List.flatMap e130 x265002)]), (1, .mem [.sl none 6 (List.flatMap e132 x266000), .sl none 4 (List.flatMap e114 x266001), .sl none 4 (List.flatMap e130 x266002)]), (2, .mem [.sc (.string x273000), .sl none 1 (List.flatMap eS x273001), .sl none 1 (List.flatMap eS x273002), .sl none 3 (List.flatMap e125 x273003)]), (3, .mem [.sc (.string x275000), .sl none 1 (List.flatMap eS x275001), .sl none 1 (List.flatMap eS x275002), .sl none 3 (List.flatMap e125 x275003)])]⟩ ∧ q ≤ kqj4_5 ∧ spec_SameProgram.l2 q x8 x11 x265000 x265001 x265002 x266000 x266001 x266002 x273000 x273001 x273002 x273003 x275000 x275001 x275002 x275003 = some r); exact BT.go; exact ⟨_, _, _, _, _, _, _, _, _, _, _, _, _, _, _, _, _, by first | rfl | (simp (disch := omega) only [go_sem, ↓reduceIte, eq_self, and_self]; done), by omega, H.out⟩))
                         all_goals intro q2_6 X hJ ih2
                         all_goals clear H
                         all_goals obtain ⟨x8, x11, x265000, x265001, x265002, x266000, x266001, x266002, x273000, x273001, x273002, x273003, x275000, x275001, x275002, x275003, rfl, hq, H⟩ := hJ
                         all_goals (cases q2_6 with
                          | zero => (simp only [spec_SameProgram.l2] at H; cases H)
                          | succ kq2_6 =>
                           simp only [spec_SameProgram.l2, beq_dec, bne_dec, Bool.or_eq_true, Bool.and_eq_true, Bool.not_eq_true', decide_eq_true_eq, decide_eq_false_iff_not, ite_or', ite_and', ite_not', ge_iff_le, gt_iff_lt] at H
                           repeat' first
                            | (with_reducible replace H := sBindA H (by assumption))
                            | (with_reducible replace H := sBind H); obtain ⟨t, hA, H⟩ := H
                            | (with_reducible replace H := sBool H); obtain ⟨c, H⟩ | ⟨c, H⟩ := H
                            | (with_reducible replace H := sEq H); obtain ⟨c, c', H⟩ | ⟨c, c', H⟩ := H
                            | (with_reducible replace H := sEqL H); obtain ⟨c, H⟩ | ⟨c, H⟩ := H
                            | (with_reducible replace H := sIte H); obtain ⟨c, H⟩ | ⟨c, H⟩ := H
                            | (with_reducible replace H := sAnd H); obtain ⟨c, H⟩ | ⟨c, H⟩ := H
                            | (with_reducible replace H := sOr H); obtain ⟨c, H⟩ | ⟨c, H⟩ := H
                           all_goals first
                            | cases H
                            | replace H := Hold.mk H
                           all_goals repeat (first
                            | apply Ok.seq
                            | apply Ok.skip
                            | (apply Ok.rN [0, 1, 2, 3, 4, 5, 6, 7, 8, 9, 10, 11, 12, 13, 14, 39, 44, 97, 102, 144, 149, 162, 167, 207] hP hn hx; exact BR.go; exact BV.go)
                            | (apply Ok.gS)
                            | (apply Ok.cn; exact BS.go)
                            | apply Ok.block
                            | apply Ok.inBlock
                            | refine Ok.exit ?_ rfl
                            | (apply Ok.rD [0, 1, 2, 3, 4, 5, 6, 7, 8, 9, 10, 11, 12, 13, 14, 39, 44, 97, 102, 144, 149, 162, 167, 207] hP hn hx mo; exact BK.go; exact BX.go)
                            | (apply goE.e [0, 1, 2, 3, 4, 5, 6, 7, 8, 9, 10, 11, 12, 13, 14, 39, 44, 97, 102, 144, 149, 162, 167, 207] hP hn hx; exact BR.go; exact BV.go)
                            | (apply goE.n hP hn hx; exact BR.go; exact BJ.go; exact BU.go)
                            | (apply goE.q; exact BR.go; exact BG.go; exact BW.go)
                            | (apply goQ.t hP; exact BR.go; exact BR.go; exact BS.go)
                            | (apply goQ.f hx; exact BR.go; exact BR.go; exact BE.go)
                            | (apply goK.k hP hn hx; exact spec_l06Ints.link _ _ _ _ (by assumption); exact BS.go)
                            | (apply goK.k hP hn hx; exact spec_l06Texts.link _ _ _ _ (by assumption); exact BS.go)
                            | (apply Ok.bk #[.tmp 4] hC hP hx hF; exact BR.go; exact BF.go; exact BF.go; exact BF.go; exact BM.go; exact BR.go; exact BR.go; exact BR.go; exact B1.go; exact BR.go)
                            | (apply Ok.ag [2, 3, 5] ih0; exact BT.go; exact ⟨_, by omega, _, _, _, _, _, _, _, by first | rfl | (simp (disch := omega) only [go_sem, ↓reduceIte, eq_self, and_self]; done), by omega, H.out⟩; done)
                            | (apply Ok.ag [2, 3, 8] ih1; exact BT.go; exact ⟨_, by omega, _, _, _, _, _, _, _, by first | rfl | (simp (disch := omega) only [go_sem, ↓reduceIte, eq_self, and_self]; done), by omega, H.out⟩; done)
                            | (apply Ok.ag [2, 3, 8, 9, 10, 11] ih2; exact BT.go; exact ⟨_, by omega, _, _, _, _, _, _, _, _, _, _, _, _, _, _, _, _, by first | rfl | (simp (disch := omega) only [go_sem, ↓reduceIte, eq_self, and_self]; done), by omega, H.out⟩; done)))))
                  · (try simp only [beq_dec, bne_dec, Bool.or_eq_true, Bool.and_eq_true, Bool.not_eq_true', decide_eq_true_eq, decide_eq_false_iff_not, ite_or', ite_and', ite_not', ge_iff_le, gt_iff_lt] at H)
                    repeat' first
                     | (with_reducible replace H := sBindA H (by assumption))
                     | (with_reducible replace H := sBind H); obtain ⟨t, hA, H⟩ := H
                     | (with_reducible replace H := sBool H); obtain ⟨c, H⟩ | ⟨c, H⟩ := H
                     | (with_reducible replace H := sEq H); obtain ⟨c, c', H⟩ | ⟨c, c', H⟩ := H
                     | (with_reducible replace H := sEqL H); obtain ⟨c, H⟩ | ⟨c, H⟩ := H
                     | (with_reducible replace H := sIte H); obtain ⟨c, H⟩ | ⟨c, H⟩ := H
                     | (with_reducible replace H := sAnd H); obtain ⟨c, H⟩ | ⟨c, H⟩ := H
                     | (with_reducible replace H := sOr H); obtain ⟨c, H⟩ | ⟨c, H⟩ := H
                    all_goals cases H
                    all_goals (replace H0 := Hold.mk H0; have H := H0; clear H0)
                    all_goals (
                     cases H.out))
               · (try simp only [beq_dec, bne_dec, Bool.or_eq_true, Bool.and_eq_true, Bool.not_eq_true', decide_eq_true_eq, decide_eq_false_iff_not, ite_or', ite_and', ite_not', ge_iff_le, gt_iff_lt] at H)
                 repeat' first
                  | (with_reducible replace H := sBindA H (by assumption))
                  | (with_reducible replace H := sBind H); obtain ⟨t, hA, H⟩ := H
                  | (with_reducible replace H := sBool H); obtain ⟨c, H⟩ | ⟨c, H⟩ := H
                  | (with_reducible replace H := sEq H); obtain ⟨c, c', H⟩ | ⟨c, c', H⟩ := H
                  | (with_reducible replace H := sEqL H); obtain ⟨c, H⟩ | ⟨c, H⟩ := H
                  | (with_reducible replace H := sIte H); obtain ⟨c, H⟩ | ⟨c, H⟩ := H
                  | (with_reducible replace H := sAnd H); obtain ⟨c, H⟩ | ⟨c, H⟩ := H
                  | (with_reducible replace H := sOr H); obtain ⟨c, H⟩ | ⟨c, H⟩ := H
                 all_goals cases H
                 all_goals (replace H0 := Hold.mk H0; have H := H0; clear H0)
                 all_goals (
                  cases H.out))
            · (try simp only [beq_dec, bne_dec, Bool.or_eq_true, Bool.and_eq_true, Bool.not_eq_true', decide_eq_true_eq, decide_eq_false_iff_not, ite_or', ite_and', ite_not', ge_iff_le, gt_iff_lt] at H)
              repeat' first
               | (with_reducible replace H := sBindA H (by assumption))
               | (with_reducible replace H := sBind H); obtain ⟨t, hA, H⟩ := H
               | (with_reducible replace H := sBool H); obtain ⟨c, H⟩ | ⟨c, H⟩ := H
               | (with_reducible replace H := sEq H); obtain ⟨c, c', H⟩ | ⟨c, c', H⟩ := H
               | (with_reducible replace H := sEqL H); obtain ⟨c, H⟩ | ⟨c, H⟩ := H
               | (with_reducible replace H := sIte H); obtain ⟨c, H⟩ | ⟨c, H⟩ := H
               | (with_reducible replace H := sAnd H); obtain ⟨c, H⟩ | ⟨c, H⟩ := H
               | (with_reducible replace H := sOr H); obtain ⟨c, H⟩ | ⟨c, H⟩ := H
              all_goals cases H
              all_goals (replace H0 := Hold.mk H0; have H := H0; clear H0)
              all_goals (
               replace H := H.out
               (try simp only [beq_dec, bne_dec, Bool.or_eq_true, Bool.and_eq_true, Bool.not_eq_true', decide_eq_true_eq, decide_eq_false_iff_not, ite_or', ite_and', ite_not', ge_iff_le, gt_iff_lt] at H)
               repeat' first
                | (with_reducible replace H := sBindA H (by assumption))
                | (with_reducible replace H := sBind H); obtain ⟨t, hA, H⟩ := H
                | (with_reducible replace H := sBool H); obtain ⟨c, H⟩ | ⟨c, H⟩ := H
                | (with_reducible replace H := sEq H); obtain ⟨c, c', H⟩ | ⟨c, c', H⟩ := H
                | (with_reducible replace H := sEqL H); obtain ⟨c, H⟩ | ⟨c, H⟩ := H
                | (with_reducible replace H := sIte H); obtain ⟨c, H⟩ | ⟨c, H⟩ := H
                | (with_reducible replace H := sAnd H); obtain ⟨c, H⟩ | ⟨c, H⟩ := H
                | (with_reducible replace H := sOr H); obtain ⟨c, H⟩ | ⟨c, H⟩ := H
               all_goals first
                | cases H
                | replace H := Hold.mk H
               all_goals repeat (first
                | apply Ok.seq
                | apply Ok.skip
                | (apply Ok.rN [0, 1, 2, 3, 4, 5, 6, 7, 8, 9, 10, 11, 12, 13, 14, 39, 44, 97, 102, 144, 149, 162, 167, 207] hP hn hx; exact BR.go; exact BV.go)
                | (apply Ok.gS)
                | (apply Ok.cn; exact BS.go)
                | apply Ok.block
                | apply Ok.inBlock
                | refine Ok.exit ?_ rfl
                | (apply Ok.rD [0, 1, 2, 3, 4, 5, 6, 7, 8, 9, 10, 11, 12, 13, 14, 39, 44, 97, 102, 144, 149, 162, 167, 207] hP hn hx mo; exact BK.go; exact BX.go)
                | (apply goE.e [0, 1, 2, 3, 4, 5, 6, 7, 8, 9, 10, 11, 12, 13, 14, 39, 44, 97, 102, 144, 149, 162, 167, 207] hP hn hx; exact BR.go; exact BV.go)
                | (apply goE.n hP hn hx; exact BR.go; exact BJ.go; exact BU.go)
                | (apply goE.q; exact BR.go; exact BG.go; exact BW.go)
                | (apply goQ.t hP; exact BR.go; exact BR.go; exact BS.go)
                | (apply goQ.f hx; exact BR.go; exact BR.go; exact BE.go)
                | (apply goK.k hP hn hx; exact spec_l06Ints.link _ _ _ _ (by assumption); exact BS.go)
                | (apply goK.k hP hn hx; exact spec_l06Texts.link _ _ _ _ (by assumption); exact BS.go)
                | (apply Ok.bk #[.tmp 4] hC hP hx hF; exact BR.go; exact BF.go; exact BF.go; exact BF.go; exact BM.go; exact BR.go; exact BR.go; exact BR.go; exact B1.go; exact BR.go)
                | (apply Ok.ag [2, 3, 5] ih0; exact BT.go; exact ⟨_, by omega, _, _, _, _, _, _, _, by first | rfl | (simp (disch := omega) only [go_sem, ↓reduceIte, eq_self, and_self]; done), by omega, H.out⟩; done)
                | (apply Ok.ag [2, 3, 8] ih1; exact BT.go; exact ⟨_, by omega, _, _, _, _, _, _, _, by first | rfl | (simp (disch := omega) only [go_sem, ↓reduceIte, eq_self, and_self]; done), by omega, H.out⟩; done)
                | (apply Ok.lq [2, 3, 12] (fun q X => ∃ x12, ∃ x265000, ∃ x265001, ∃ x265002, ∃ x266000, ∃ x266001, ∃ x266002, X = ⟨[(2, .pl 0 none 0), (3, .pl 1 none 0), (12, .dat false [.sc (.int .i64 x12)])], [(0, .mem [.sl none 6 (List.flatMap e132 x265000), .sl none 4 (List.flatMap e114 x265001), .sl none 4 (List.flatMap e130 x265002)]), (1, .mem [.sl none 6 (List.flatMap e132 x266000), .sl none 4 (List.flatMap e114 x266001), .sl none 4 (List.flatMap e130 x266002)])]⟩ ∧ q ≤ kq1_4 ∧ spec_SameProgram.l3 q x12 x265000 x265001 x265002 x266000 x266001 x266002 = some r); exact BT.go; exact ⟨_, _, _, _, _, _, _, _, by first | rfl | (simp (disch := omega) only [go_sem, ↓reduceIte, eq_self, and_self]; done), by omega, H.out⟩))
               all_goals intro q3_7 X hJ ih3
               all_goals clear H
               all_goals obtain ⟨x12, x265000, x265001, x265002, x266000, x266001, x266002, rfl, hq, H⟩ := hJ
               all_goals (cases q3_7 with
                | zero => (simp only [spec_SameProgram.l3] at H; cases H)
                | succ kq3_7 =>
                 simp only [spec_SameProgram.l3] at H
                 replace H := Hold.mk H
                 obtain ⟨H, H0⟩ | ⟨H, H0⟩ := sIteU H.out
                 · (try simp only [beq_dec, bne_dec, Bool.or_eq_true, Bool.and_eq_true, Bool.not_eq_true', decide_eq_true_eq, decide_eq_false_iff_not, ite_or', ite_and', ite_not', ge_iff_le, gt_iff_lt] at H)
                   repeat' first
                    | (with_reducible replace H := sBindA H (by assumption))
                    | (with_reducible replace H := sBind H); obtain ⟨t, hA, H⟩ := H
                    | (with_reducible replace H := sBool H); obtain ⟨c, H⟩ | ⟨c, H⟩ := H
                    | (with_reducible replace H := sEq H); obtain ⟨c, c', H⟩ | ⟨c, c', H⟩ := H
                    | (with_reducible replace H := sEqL H); obtain ⟨c, H⟩ | ⟨c, H⟩ := H
                    | (with_reducible replace H := sIte H); obtain ⟨c, H⟩ | ⟨c, H⟩ := H
                    | (with_reducible replace H := sAnd H); obtain ⟨c, H⟩ | ⟨c, H⟩ := H
                    | (with_reducible replace H := sOr H); obtain ⟨c, H⟩ | ⟨c, H⟩ := H
                   all_goals cases H
                   all_goals (replace H0 := Hold.mk H0; have H := H0; clear H0)
                   all_goals (
                    obtain ⟨H, H0⟩ | ⟨H, H0⟩ := sIteU H.out
                    · (try simp only [beq_dec, bne_dec, Bool.or_eq_true, Bool.and_eq_true, Bool.not_eq_true', decide_eq_true_eq, decide_eq_false_iff_not, ite_or', ite_and', ite_not', ge_iff_le, gt_iff_lt] at H)
                      repeat' first
                       | (with_reducible replace H := sBindA H (by assumption))
                       | (with_reducible replace H := sBind H); obtain ⟨t, hA, H⟩ := H
                       | (with_reducible replace H := sBool H); obtain ⟨c, H⟩ | ⟨c, H⟩ := H
                       | (with_reducible replace H := sEq H); obtain ⟨c, c', H⟩ | ⟨c, c', H⟩ := H
                       | (with_reducible replace H := sEqL H); obtain ⟨c, H⟩ | ⟨c, H⟩ := H
                       | (with_reducible replace H := sIte H); obtain ⟨c, H⟩ | ⟨c, H⟩ := H
                       | (with_reducible replace H := sAnd H); obtain ⟨c, H⟩ | ⟨c, H⟩ := H
                       | (with_reducible replace H := sOr H); obtain ⟨c, H⟩ | ⟨c, H⟩ := H
                      all_goals cases H
                      all_goals (replace H0 := Hold.mk H0; have H := H0; clear H0)
                      all_goals (
                       obtain ⟨H, H0⟩ | ⟨H, H0⟩ := sIteU H.out
                       · (try simp only [beq_dec, bne_dec, Bool.or_eq_true, Bool.and_eq_true, Bool.not_eq_true', decide_eq_true_eq, decide_eq_false_iff_not, ite_or', ite_and', ite_not', ge_iff_le, gt_iff_lt] at H)
                         repeat' first
                          | (with_reducible replace H := sBindA H (by assumption))
                          | (with_reducible replace H := sBind H); obtain ⟨t, hA, H⟩ := H
                          | (with_reducible replace H := sBool H); obtain ⟨c, H⟩ | ⟨c, H⟩ := H
                          | (with_reducible replace H := sEq H); obtain ⟨c, c', H⟩ | ⟨c, c', H⟩ := H
                          | (with_reducible replace H := sEqL H); obtain ⟨c, H⟩ | ⟨c, H⟩ := H
                          | (with_reducible replace H := sIte H); obtain ⟨c, H⟩ | ⟨c, H⟩ := H
                          | (with_reducible replace H := sAnd H); obtain ⟨c, H⟩ | ⟨c, H⟩ := H
                          | (with_reducible replace H := sOr H); obtain ⟨c, H⟩ | ⟨c, H⟩ := H
                         all_goals cases H
                         all_goals (replace H0 := Hold.mk H0; have H := H0; clear H0)
                         all_goals (
                          repeat (first
                           | refine Ok.cutR 27 (fun X => ∃ x12, ∃ x207, ∃ x265000, ∃ x265001, ∃ x265002, ∃ x266000, ∃ x266001, ∃ x266002, ∃ q, X = ⟨[(2, .pl 0 none 0), (3, .pl 1 none 0), (12, .dat false [.sc (.int .i64 x12)]), (207, .dat false [.sc (.bool x207)])], [(0, .mem [.sl none 6 (List.flatMap e132 x265000), .sl none 4 (List.flatMap e114 x265001), .sl none 4 (List.flatMap e130 x265002)]), (1, .mem [.sl none 6 (List.flatMap e132 x266000), .sl none 4 (List.flatMap e114 x266001), .sl none 4 (List.flatMap e130 x266002)])]⟩ ∧ q ≤ kq3_7 ∧ spec_SameProgram.j7 q x12 x207 x265000 x265001 x265002 x266000 x266001 x266002 = some r) ?_ ?_
                           | apply Ok.seq
                           | apply Ok.skip
                           | (apply Ok.rN [0, 1, 2, 3, 4, 5, 6, 7, 8, 9, 10, 11, 12, 13, 14, 39, 44, 97, 102, 144, 149, 162, 167, 207] hP hn hx; exact BR.go; exact BV.go)
                           | (apply Ok.gS)
                           | (apply Ok.cn; exact BS.go)
                           | apply Ok.block
                           | apply Ok.inBlock
                           | refine Ok.exit ?_ rfl
                           | (apply Ok.rD [0, 1, 2, 3, 4, 5, 6, 7, 8, 9, 10, 11, 12, 13, 14, 39, 44, 97, 102, 144, 149, 162, 167, 207] hP hn hx mo; exact BK.go; exact BX.go)
                           | (apply goE.e [0, 1, 2, 3, 4, 5, 6, 7, 8, 9, 10, 11, 12, 13, 14, 39, 44, 97, 102, 144, 149, 162, 167, 207] hP hn hx; exact BR.go; exact BV.go)
                           | (apply goE.n hP hn hx; exact BR.go; exact BJ.go; exact BU.go)
                           | (apply goE.q; exact BR.go; exact BG.go; exact BW.go)
                           | (apply goQ.t hP; exact BR.go; exact BR.go; exact BS.go)
                           | (apply goQ.f hx; exact BR.go; exact BR.go; exact BE.go)
                           | (apply goK.k hP hn hx; exact spec_l06Ints.link _ _ _ _ (by assumption); exact BS.go)
                           | (apply goK.k hP hn hx; exact spec_l06Texts.link _ _ _ _ (by assumption); exact BS.go)
                           | (apply Ok.bk #[.tmp 4] hC hP hx hF; exact BR.go; exact BF.go; exact BF.go; exact BF.go; exact BM.go; exact BR.go; exact BR.go; exact BR.go; exact B1.go; exact BR.go))
                          · intro hjj7
                            replace H := H.out
                            (try simp only [beq_dec, bne_dec, Bool.or_eq_true, Bool.and_eq_true, Bool.not_eq_true', decide_eq_true_eq, decide_eq_false_iff_not, ite_or', ite_and', ite_not', ge_iff_le, gt_iff_lt] at H)
                            repeat' first
                             | (with_reducible replace H := sBindA H (by assumption))
                             | (with_reducible replace H := sBind H); obtain ⟨t, hA, H⟩ := H
                             | (with_reducible replace H := sBool H); obtain ⟨c, H⟩ | ⟨c, H⟩ := H
                             | (with_reducible replace H := sEq H); obtain ⟨c, c', H⟩ | ⟨c, c', H⟩ := H
                             | (with_reducible replace H := sEqL H); obtain ⟨c, H⟩ | ⟨c, H⟩ := H
                             | (with_reducible replace H := sIte H); obtain ⟨c, H⟩ | ⟨c, H⟩ := H
                             | (with_reducible replace H := sAnd H); obtain ⟨c, H⟩ | ⟨c, H⟩ := H
                             | (with_reducible replace H := sOr H); obtain ⟨c, H⟩ | ⟨c, H⟩ := H
                            all_goals first
                             | cases H
                             | replace H := Hold.mk H
                            all_goals repeat (first
                             | (apply Ok.mt [2, 3, 12, 207] hjj7; exact BT.go; exact ⟨_, _, _, _, _, _, _, _, kq3_7, by first | rfl | (simp (disch := omega) only [go_sem, ↓reduceIte, eq_self, and_self]; done), by omega, by first | exact H.out | (have h0 := H.out; simp only [*, go_sem, ↓reduceIte, reduceCtorEq] at h0 ⊢; exact h0)⟩; done)
                             | apply Ok.seq
                             | apply Ok.skip
                             | (apply Ok.rN [0, 1, 2, 3, 4, 5, 6, 7, 8, 9, 10, 11, 12, 13, 14, 39, 44, 97, 102, 144, 149, 162, 167, 207] hP hn hx; exact BR.go; exact BV.go)
                             | (apply Ok.gS)
                             | (apply Ok.cn; exact BS.go)
                             | apply Ok.block
                             | apply Ok.inBlock
                             | refine Ok.exit ?_ rfl
                             | (apply Ok.rD [0, 1, 2, 3, 4, 5, 6, 7, 8, 9, 10, 11, 12, 13, 14, 39, 44, 97, 102, 144, 149, 162, 167, 207] hP hn hx mo; exact BK.go; exact BX.go)
                             | (apply goE.e [0, 1, 2, 3, 4, 5, 6, 7, 8, 9, 10, 11, 12, 13, 14, 39, 44, 97, 102, 144, 149, 162, 167, 207] hP hn hx; exact BR.go; exact BV.go)
                             | (apply goE.n hP hn hx; exact BR.go; exact BJ.go; exact BU.go)
                             | (apply goE.q; exact BR.go; exact BG.go; exact BW.go)
                             | (apply goQ.t hP; exact BR.go; exact BR.go; exact BS.go)
                             | (apply goQ.f hx; exact BR.go; exact BR.go; exact BE.go)
                             | (apply goK.k hP hn hx; exact spec_l06Ints.link _ _ _ _ (by assumption); exact BS.go)
                             | (apply goK.k hP hn hx; exact spec_l06Texts.link _ _ _ _ (by assumption); exact BS.go)
                             | (apply Ok.bk #[.tmp 4] hC hP hx hF; exact BR.go; exact BF.go; exact BF.go; exact BF.go; exact BM.go; exact BR.go; exact BR.go; exact BR.go; exact B1.go; exact BR.go)
                             | (apply Ok.ag [2, 3, 5] ih0; exact BT.go; exact ⟨_, by omega, _, _, _, _, _, _, _, by first | rfl | (simp (disch := omega) only [go_sem, ↓reduceIte, eq_self, and_self]; done), by omega, H.out⟩; done)
                             | (apply Ok.ag [2, 3, 8] ih1; exact BT.go; exact ⟨_, by omega, _, _, _, _, _, _, _, by first | rfl | (simp (disch := omega) only [go_sem, ↓reduceIte, eq_self, and_self]; done), by omega, H.out⟩; done)
                             | (apply Ok.ag [2, 3, 12] ih3; exact BT.go; exact ⟨_, by omega, _, _, _, _, _, _, _, by first | rfl | (simp (disch := omega) only [go_sem, ↓reduceIte, eq_self, and_self]; done), by omega, H.out⟩; done))
                          · clear H
                            intro X hJ
                            obtain ⟨x12, x207, x265000, x265001, x265002, x266000, x266001, x266002, qj7_8, rfl, hq, H⟩ := hJ
                            (cases qj7_8 with
                             | zero => (simp only [spec_SameProgram.j7] at H; cases H)
                             | succ kqj7_8 =>
                              simp only [spec_SameProgram.j7, beq_dec, bne_dec, Bool.or_eq_true, Bool.and_eq_true, Bool.not_eq_true', decide_eq_true_eq, decide_eq_false_iff_not, ite_or', ite_and', ite_not', ge_iff_le, gt_iff_lt] at H
                              repeat' first
                               | (with_reducible replace H := sBindA H (by assumption))
                               | (with_reducible replace H := sBind H); obtain ⟨t, hA, H⟩ := H
                               | (with_reducible replace H := sBool H); obtain ⟨c, H⟩ | ⟨c, H⟩ := H
                               | (with_reducible replace H := sEq H); obtain ⟨c, c', H⟩ | ⟨c, c', H⟩ := H
                               | (with_reducible replace H := sEqL H); obtain ⟨c, H⟩ | ⟨c, H⟩ := H
                               | (with_reducible replace H := sIte H); obtain ⟨c, H⟩ | ⟨c, H⟩ := H
                               | (with_reducible replace H := sAnd H); obtain ⟨c, H⟩ | ⟨c, H⟩ := H
                               | (with_reducible replace H := sOr H); obtain ⟨c, H⟩ | ⟨c, H⟩ := H
                              all_goals first
                               | cases H
                               | replace H := Hold.mk H
                              all_goals repeat (first
                               | apply Ok.seq
                               | apply Ok.skip
                               | (apply Ok.rN [0, 1, 2, 3, 4, 5, 6, 7, 8, 9, 10, 11, 12, 13, 14, 39, 44, 97, 102, 144, 149, 162, 167, 207] hP hn hx; exact BR.go; exact BV.go)
                               | (apply Ok.gS)
                               | (apply Ok.cn; exact BS.go)
                               | apply Ok.block
                               | apply Ok.inBlock
                               | refine Ok.exit ?_ rfl
                               | (apply Ok.rD [0, 1, 2, 3, 4, 5, 6, 7, 8, 9, 10, 11, 12, 13, 14, 39, 44, 97, 102, 144, 149, 162, 167, 207] hP hn hx mo; exact BK.go; exact BX.go)
                               | (apply goE.e [0, 1, 2, 3, 4, 5, 6, 7, 8, 9, 10, 11, 12, 13, 14, 39, 44, 97, 102, 144, 149, 162, 167, 207] hP hn hx; exact BR.go; exact BV.go)
                               | (apply goE.n hP hn hx; exact BR.go; exact BJ.go; exact BU.go)
                               | (apply goE.q; exact BR.go; exact BG.go; exact BW.go)
                               | (apply goQ.t hP; exact BR.go; exact BR.go; exact BS.go)
                               | (apply goQ.f hx; exact BR.go; exact BR.go; exact BE.go)
                               | (apply goK.k hP hn hx; exact spec_l06Ints.link _ _ _ _ (by assumption); exact BS.go)
                               | (apply goK.k hP hn hx; exact spec_l06Texts.link _ _ _ _ (by assumption); exact BS.go)
                               | (apply Ok.bk #[.tmp 4] hC hP hx hF; exact BR.go; exact BF.go; exact BF.go; exact BF.go; exact BM.go; exact BR.go; exact BR.go; exact BR.go; exact B1.go; exact BR.go)
                               | (apply Ok.ag [2, 3, 5] ih0; exact BT.go; exact ⟨_, by omega, _, _, _, _, _, _, _, by first | rfl | (simp (disch := omega) only [go_sem, ↓reduceIte, eq_self, and_self]; done), by omega, H.out⟩; done)
                               | (apply Ok.ag [2, 3, 8] ih1; exact BT.go; exact ⟨_, by omega, _, _, _, _, _, _, _, by first | rfl | (simp (disch := omega) only [go_sem, ↓reduceIte, eq_self, and_self]; done), by omega, H.out⟩; done)
                               | (apply Ok.ag [2, 3, 12] ih3; exact BT.go; exact ⟨_, by omega, _, _, _, _, _, _, _, by first | rfl | (simp (disch := omega) only [go_sem, ↓reduceIte, eq_self, and_self]; done), by omega, H.out⟩; done))))
                       · (try simp only [beq_dec, bne_dec, Bool.or_eq_true, Bool.and_eq_true, Bool.not_eq_true', decide_eq_true_eq, decide_eq_false_iff_not, ite_or', ite_and', ite_not', ge_iff_le, gt_iff_lt] at H)
                         repeat' first
                          | (with_reducible replace H := sBindA H (by assumption))
                          | (with_reducible replace H := sBind H); obtain ⟨t, hA, H⟩ := H
                          | (with_reducible replace H := sBool H); obtain ⟨c, H⟩ | ⟨c, H⟩ := H
                          | (with_reducible replace H := sEq H); obtain ⟨c, c', H⟩ | ⟨c, c', H⟩ := H
                          | (with_reducible replace H := sEqL H); obtain ⟨c, H⟩ | ⟨c, H⟩ := H
                          | (with_reducible replace H := sIte H); obtain ⟨c, H⟩ | ⟨c, H⟩ := H
                          | (with_reducible replace H := sAnd H); obtain ⟨c, H⟩ | ⟨c, H⟩ := H
                          | (with_reducible replace H := sOr H); obtain ⟨c, H⟩ | ⟨c, H⟩ := H
                         all_goals cases H
                         all_goals (replace H0 := Hold.mk H0; have H := H0; clear H0)
                         all_goals (
                          cases H.out))
                    · (try simp only [beq_dec, bne_dec, Bool.or_eq_true, Bool.and_eq_true, Bool.not_eq_true', decide_eq_true_eq, decide_eq_false_iff_not, ite_or', ite_and', ite_not', ge_iff_le, gt_iff_lt] at H)
                      repeat' first
                       | (with_reducible replace H := sBindA H (by assumption))
                       | (with_reducible replace H := sBind H); obtain ⟨t, hA, H⟩ := H
                       | (with_reducible replace H := sBool H); obtain ⟨c, H⟩ | ⟨c, H⟩ := H
                       | (with_reducible replace H := sEq H); obtain ⟨c, c', H⟩ | ⟨c, c', H⟩ := H
                       | (with_reducible replace H := sEqL H); obtain ⟨c, H⟩ | ⟨c, H⟩ := H
                       | (with_reducible replace H := sIte H); obtain ⟨c, H⟩ | ⟨c, H⟩ := H
                       | (with_reducible replace H := sAnd H); obtain ⟨c, H⟩ | ⟨c, H⟩ := H
                       | (with_reducible replace H := sOr H); obtain ⟨c, H⟩ | ⟨c, H⟩ := H
                      all_goals cases H
                      all_goals (replace H0 := Hold.mk H0; have H := H0; clear H0)
                      all_goals (
                       cases H.out))
                 · (try simp only [beq_dec, bne_dec, Bool.or_eq_true, Bool.and_eq_true, Bool.not_eq_true', decide_eq_true_eq, decide_eq_false_iff_not, ite_or', ite_and', ite_not', ge_iff_le, gt_iff_lt] at H)
                   repeat' first
                    | (with_reducible replace H := sBindA H (by assumption))
                    | (with_reducible replace H := sBind H); obtain ⟨t, hA, H⟩ := H
                    | (with_reducible replace H := sBool H); obtain ⟨c, H⟩ | ⟨c, H⟩ := H
                    | (with_reducible replace H := sEq H); obtain ⟨c, c', H⟩ | ⟨c, c', H⟩ := H
                    | (with_reducible replace H := sEqL H); obtain ⟨c, H⟩ | ⟨c, H⟩ := H
                    | (with_reducible replace H := sIte H); obtain ⟨c, H⟩ | ⟨c, H⟩ := H
                    | (with_reducible replace H := sAnd H); obtain ⟨c, H⟩ | ⟨c, H⟩ := H
                    | (with_reducible replace H := sOr H); obtain ⟨c, H⟩ | ⟨c, H⟩ := H
                   all_goals cases H
                   all_goals (replace H0 := Hold.mk H0; have H := H0; clear H0)
                   all_goals (
                    replace H := H.out
                    (try simp only [beq_dec, bne_dec, Bool.or_eq_true, Bool.and_eq_true, Bool.not_eq_true', decide_eq_true_eq, decide_eq_false_iff_not, ite_or', ite_and', ite_not', ge_iff_le, gt_iff_lt] at H)
                    repeat' first
                     | (with_reducible replace H := sBindA H (by assumption))
                     | (with_reducible replace H := sBind H); obtain ⟨t, hA, H⟩ := H
                     | (with_reducible replace H := sBool H); obtain ⟨c, H⟩ | ⟨c, H⟩ := H
                     | (with_reducible replace H := sEq H); obtain ⟨c, c', H⟩ | ⟨c, c', H⟩ := H
                     | (with_reducible replace H := sEqL H); obtain ⟨c, H⟩ | ⟨c, H⟩ := H
                     | (with_reducible replace H := sIte H); obtain ⟨c, H⟩ | ⟨c, H⟩ := H
                     | (with_reducible replace H := sAnd H); obtain ⟨c, H⟩ | ⟨c, H⟩ := H
                     | (with_reducible replace H := sOr H); obtain ⟨c, H⟩ | ⟨c, H⟩ := H
                    all_goals first
                     | cases H
                     | replace H := Hold.mk H
                    all_goals repeat (first
                     | apply Ok.seq
                     | apply Ok.skip
                     | (apply Ok.rN [0, 1, 2, 3, 4, 5, 6, 7, 8, 9, 10, 11, 12, 13, 14, 39, 44, 97, 102, 144, 149, 162, 167, 207] hP hn hx; exact BR.go; exact BV.go)
                     | (apply Ok.gS)
                     | (apply Ok.cn; exact BS.go)
                     | apply Ok.block
                     | apply Ok.inBlock
                     | refine Ok.exit ?_ rfl
                     | (apply Ok.rD [0, 1, 2, 3, 4, 5, 6, 7, 8, 9, 10, 11, 12, 13, 14, 39, 44, 97, 102, 144, 149, 162, 167, 207] hP hn hx mo; exact BK.go; exact BX.go)
                     | (apply goE.e [0, 1, 2, 3, 4, 5, 6, 7, 8, 9, 10, 11, 12, 13, 14, 39, 44, 97, 102, 144, 149, 162, 167, 207] hP hn hx; exact BR.go; exact BV.go)
                     | (apply goE.n hP hn hx; exact BR.go; exact BJ.go; exact BU.go)
                     | (apply goE.q; exact BR.go; exact BG.go; exact BW.go)
                     | (apply goQ.t hP; exact BR.go; exact BR.go; exact BS.go)
                     | (apply goQ.f hx; exact BR.go; exact BR.go; exact BE.go)
                     | (apply goK.k hP hn hx; exact spec_l06Ints.link _ _ _ _ (by assumption); exact BS.go)
                     | (apply goK.k hP hn hx; exact spec_l06Texts.link _ _ _ _ (by assumption); exact BS.go)
                     | (apply Ok.bk #[.tmp 4] hC hP hx hF; exact BR.go; exact BF.go; exact BF.go; exact BF.go; exact BM.go; exact BR.go; exact BR.go; exact BR.go; exact B1.go; exact BR.go)
                     | (apply Ok.ag [2, 3, 5] ih0; exact BT.go; exact ⟨_, by omega, _, _, _, _, _, _, _, by first | rfl | (simp (disch := omega) only [go_sem, ↓reduceIte, eq_self, and_self]; done), by omega, H.out⟩; done)
                     | (apply Ok.ag [2, 3, 8] ih1; exact BT.go; exact ⟨_, by omega, _, _, _, _, _, _, _, by first | rfl | (simp (disch := omega) only [go_sem, ↓reduceIte, eq_self, and_self]; done), by omega, H.out⟩; done)
                     | (apply Ok.ag [2, 3, 12] ih3; exact BT.go; exact ⟨_, by omega, _, _, _, _, _, _, _, by first | rfl | (simp (disch := omega) only [go_sem, ↓reduceIte, eq_self, and_self]; done), by omega, H.out⟩; done)))))))))
end Go.Proofs.Ytegeahiflkjhmaa.PFnExactSameProgram
