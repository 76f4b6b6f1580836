/- Functions' walks: each computes what its plain form says. No condition. -/
import Derived.Test.YtmbkcbgbienjoaaLkFnExactProgramOkh
import Derived.Test.YtmbkcbgbienjoaaLkFnExactProgramOkb
open Go Go.Proofs Go.Proofs.Ytmbkcbgbienjoaa.Abs
namespace Go.Proofs.Ytmbkcbgbienjoaa.PFnExactProgramOk
open Go.RowKit Go.Proofs.YtmbkcbgbienjoaaW.PrintWords Go.Proofs.YtmbkcbgbienjoaaW.PrintLast Go.Proofs.YtmbkcbgbienjoaaW.PrintMore
set_option linter.unusedVariables false
set_option linter.unusedSimpArgs false
set_option maxRecDepth 100000
attribute [local irreducible] evK evQ evM evF evW evH goE goK goKD goQ goQD goD Ok ACalls
set_option maxHeartbeats 8000000 in
theorem spec_l05Kids.link (k : Nat) (l0_0 : List (S77)) (l0_1 : List (S106)) (l0_2 : List (S103)) (a1 : Int) (r : Bool) (H : spec_l05Kids.f k l0_0 l0_1 l0_2 a1 = some r) : ACalls Try.prog 76 [.dat true [.sl none 6 (List.flatMap e77 l0_0), .sl none 4 (List.flatMap e106 l0_1), .sl none 4 (List.flatMap e103 l0_2)], .dat false [.sc (.int .i64 a1)]] [(false, [.sc (.bool r)])] [.dat true [.sl none 6 (List.flatMap e77 l0_0), .sl none 4 (List.flatMap e106 l0_1), .sl none 4 (List.flatMap e103 l0_2)], .dat false [.sc (.int .i64 a1)]] := by
 refine ACalls.enter Try.func76 (by kernel_rfl) rfl (by rw [Try.ntmps76]; exact Nat.le_of_ble_eq_true rfl) (fun C F hC hP hf hn hx => ?_)
 rw [Try.ntmps76] at hn
 have hF : Try.prog.funcs[C.fid]? = some Try.f76 := hf ▸ Try.func76
 replace hC := Hold.mk hC
 replace hx : C.fx = [] := hx
 simp only [entry, entE, enumM, rwA, rwC, Nat.reduceAdd] at ⊢
 simp only [spec_l05Kids.f] at H
 replace H := Hold.mk H
 obtain ⟨H, H0⟩ | ⟨H, H0⟩ := sIteU H.out
 · (try simp only [List.length_append, List.length_cons, List.length_nil, Nat.zero_add, beq_dec, bne_dec, Bool.or_eq_true, Bool.and_eq_true, Bool.not_eq_true', decide_eq_true_eq, decide_eq_false_iff_not, ite_or', ite_and', ite_not', ge_iff_le, gt_iff_lt] at H)
   repeat' first
    | (with_reducible replace H := sBindA H (by assumption))
    | (with_reducible replace H := sBindS H)
    | (with_reducible replace H := sBind H); obtain ⟨t, hA, H⟩ := H
    | (with_reducible replace H := sBool H); obtain ⟨c, H⟩ | ⟨c, H⟩ := H
    | (with_reducible replace H := sEq H); obtain ⟨c, c', H⟩ | ⟨c, c', H⟩ := H
    | (with_reducible replace H := sEqL H); obtain ⟨c, H⟩ | ⟨c, H⟩ := H
    | (with_reducible replace H := sIte H); obtain ⟨c, H⟩ | ⟨c, H⟩ := H
    | (with_reducible replace H := sAnd H); obtain ⟨c, H⟩ | ⟨c, H⟩ := H
    | (with_reducible replace H := sOr H); obtain ⟨c, H⟩ | ⟨c, H⟩ := H
   all_goals cases H
   all_goals (replace H0 := Hold.mk H0; have H := H0; clear H0)
   all_goals (
    obtain ⟨H, H0⟩ | ⟨H, H0⟩ := sIteU H.out
    · (try simp only [List.length_append, List.length_cons, List.length_nil, Nat.zero_add, beq_dec, bne_dec, Bool.or_eq_true, Bool.and_eq_true, Bool.not_eq_true', decide_eq_true_eq, decide_eq_false_iff_not, ite_or', ite_and', ite_not', ge_iff_le, gt_iff_lt] at H)
      repeat' first
       | (with_reducible replace H := sBindA H (by assumption))
       | (with_reducible replace H := sBindS H)
       | (with_reducible replace H := sBind H); obtain ⟨t, hA, H⟩ := H
       | (with_reducible replace H := sBool H); obtain ⟨c, H⟩ | ⟨c, H⟩ := H
       | (with_reducible replace H := sEq H); obtain ⟨c, c', H⟩ | ⟨c, c', H⟩ := H
       | (with_reducible replace H := sEqL H); obtain ⟨c, H⟩ | ⟨c, H⟩ := H
       | (with_reducible replace H := sIte H); obtain ⟨c, H⟩ | ⟨c, H⟩ := H
       | (with_reducible replace H := sAnd H); obtain ⟨c, H⟩ | ⟨c, H⟩ := H
       | (with_reducible replace H := sOr H); obtain ⟨c, H⟩ | ⟨c, H⟩ := H
      all_goals cases H
      all_goals (replace H0 := Hold.mk H0; have H := H0; clear H0)
      all_goals (
       repeat (first
        | refine Ok.cutI 20 (fun X => ∃ x1, ∃ x5, ∃ x19, ∃ x20, ∃ x274000, ∃ x274001, ∃ x274002, ∃ q, X = ⟨[(1, .dat false [.sc (.int .i64 x1)]), (2, .pl 0 none 0), (5, .dat false [.sc (.int .i64 x5)]), (19, .dat false [.sc (.int .i64 x19)]), (20, .dat false [.sc (.bool x20)])], [(0, .mem [.sl none 6 (List.flatMap e77 x274000), .sl none 4 (List.flatMap e106 x274001), .sl none 4 (List.flatMap e103 x274002)])]⟩ ∧ q ≤ k ∧ spec_l05Kids.j0 q x1 x5 x19 x20 x274000 x274001 x274002 = some r) ?_ ?_
        | apply Ok.seq
        | apply Ok.skip
        | (apply Ok.rN [0, 1, 2, 4, 5, 6, 19, 20, 29, 38, 51, 69, 85, 93] hP hn hx; exact BR.go; exact BV.go)
        | (apply Ok.gS)
        | (apply Ok.cn; exact BS.go)
        | apply Ok.block
        | apply Ok.inBlock
        | (apply Ok.ex; exact BR.go)
        | (apply goE.e [0, 1, 2, 4, 5, 6, 19, 20, 29, 38, 51, 69, 85, 93] hP hn hx; exact BR.go; exact BV.go)
        | (apply goE.n hP hn hx; exact BR.go; exact BJ.go; exact BU.go)
        | (apply goE.q; exact BR.go; exact BG.go; exact BW.go)
        | (apply goQ.t hP; exact BR.go; exact BR.go; exact BS.go)
        | (apply goQ.f hn hx; exact BR.go; exact BR.go; exact BE.go)
        | (apply goK.k hP hn hx; exact spec_l01In.link _ _ _ _ (by assumption); exact BS.go)
        | (apply goK.k hP hn hx; exact spec_l05Statement.link _ _ (by assumption); exact BS.go)
        | (apply goK.k hP hn hx; exact spec_l05Kid.link _ _ _ _ _ _ (by assumption); exact BS.go)
        | (apply goK.k hP hn hx; exact spec_l05Values.link _ _ _ _ _ _ _ (by assumption); exact BS.go)
        | (apply goK.k hP hn hx; exact spec_l05Blocks.link _ _ _ _ _ _ _ (by assumption); exact BS.go)
        | (apply Ok.bk #[.tmp 4] hC.out hP hx hF; exact BR.go; exact BF.go; exact BF.go; exact BF.go; exact BM.go; exact BR.go; exact BR.go; exact BR.go; exact B1.go; exact BR.go))
       · intro hjj0
         replace H := H.out
         (try simp only [List.length_append, List.length_cons, List.length_nil, Nat.zero_add, beq_dec, bne_dec, Bool.or_eq_true, Bool.and_eq_true, Bool.not_eq_true', decide_eq_true_eq, decide_eq_false_iff_not, ite_or', ite_and', ite_not', ge_iff_le, gt_iff_lt] at H)
         repeat' first
          | (with_reducible replace H := sBindA H (by assumption))
          | (with_reducible replace H := sBindS H)
          | (with_reducible replace H := sBind H); obtain ⟨t, hA, H⟩ := H
          | (with_reducible replace H := sBool H); obtain ⟨c, H⟩ | ⟨c, H⟩ := H
          | (with_reducible replace H := sEq H); obtain ⟨c, c', H⟩ | ⟨c, c', H⟩ := H
          | (with_reducible replace H := sEqL H); obtain ⟨c, H⟩ | ⟨c, H⟩ := H
          | (with_reducible replace H := sIte H); obtain ⟨c, H⟩ | ⟨c, H⟩ := H
          | (with_reducible replace H := sAnd H); obtain ⟨c, H⟩ | ⟨c, H⟩ := H
          | (with_reducible replace H := sOr H); obtain ⟨c, H⟩ | ⟨c, H⟩ := H
         all_goals first
          | cases H
          | replace H := Hold.mk H
         all_goals repeat (first
          | (apply Ok.mt [1, 2, 5, 19, 20] hjj0; exact BT.go; exact ⟨_, _, _, _, _, _, _, k, by first | rfl | (simp (disch := omega) only [go_sem, ↓reduceIte, eq_self, and_self]; done), by omega, by first | exact H.out | (have h0 := H.out; simp only [*, go_sem, ↓reduceIte, reduceCtorEq] at h0 ⊢; exact h0)⟩; done)
          | apply Ok.seq
          | apply Ok.skip
          | (apply Ok.rN [0, 1, 2, 4, 5, 6, 19, 20, 29, 38, 51, 69, 85, 93] hP hn hx; exact BR.go; exact BV.go)
          | (apply Ok.gS)
          | (apply Ok.cn; exact BS.go)
          | apply Ok.block
          | apply Ok.inBlock
          | (apply Ok.ex; exact BR.go)
          | (apply goE.e [0, 1, 2, 4, 5, 6, 19, 20, 29, 38, 51, 69, 85, 93] hP hn hx; exact BR.go; exact BV.go)
          | (apply goE.n hP hn hx; exact BR.go; exact BJ.go; exact BU.go)
          | (apply goE.q; exact BR.go; exact BG.go; exact BW.go)
          | (apply goQ.t hP; exact BR.go; exact BR.go; exact BS.go)
          | (apply goQ.f hn hx; exact BR.go; exact BR.go; exact BE.go)
          | (apply goK.k hP hn hx; exact spec_l01In.link _ _ _ _ (by assumption); exact BS.go)
          | (apply goK.k hP hn hx; exact spec_l05Statement.link _ _ (by assumption); exact BS.go)
          | (apply goK.k hP hn hx; exact spec_l05Kid.link _ _ _ _ _ _ (by assumption); exact BS.go)
          | (apply goK.k hP hn hx; exact spec_l05Values.link _ _ _ _ _ _ _ (by assumption); exact BS.go)
          | (apply goK.k hP hn hx; exact spec_l05Blocks.link _ _ _ _ _ _ _ (by assumption); exact BS.go)
          | (apply Ok.bk #[.tmp 4] hC.out hP hx hF; exact BR.go; exact BF.go; exact BF.go; exact BF.go; exact BM.go; exact BR.go; exact BR.go; exact BR.go; exact B1.go; exact BR.go))
       · clear H
         intro X hJ
         obtain ⟨x1, x5, x19, x20, x274000, x274001, x274002, qj0_1, rfl, hq, H⟩ := hJ
         (cases qj0_1 with
          | zero => (simp only [spec_l05Kids.j0] at H; cases H)
          | succ kqj0_1 =>
           simp only [spec_l05Kids.j0] at H
           replace H := Hold.mk H
           obtain ⟨H, H0⟩ | ⟨H, H0⟩ := sIteU H.out
           · (try simp only [List.length_append, List.length_cons, List.length_nil, Nat.zero_add, beq_dec, bne_dec, Bool.or_eq_true, Bool.and_eq_true, Bool.not_eq_true', decide_eq_true_eq, decide_eq_false_iff_not, ite_or', ite_and', ite_not', ge_iff_le, gt_iff_lt] at H)
             repeat' first
              | (with_reducible replace H := sBindA H (by assumption))
              | (with_reducible replace H := sBindS H)
              | (with_reducible replace H := sBind H); obtain ⟨t, hA, H⟩ := H
              | (with_reducible replace H := sBool H); obtain ⟨c, H⟩ | ⟨c, H⟩ := H
              | (with_reducible replace H := sEq H); obtain ⟨c, c', H⟩ | ⟨c, c', H⟩ := H
              | (with_reducible replace H := sEqL H); obtain ⟨c, H⟩ | ⟨c, H⟩ := H
              | (with_reducible replace H := sIte H); obtain ⟨c, H⟩ | ⟨c, H⟩ := H
              | (with_reducible replace H := sAnd H); obtain ⟨c, H⟩ | ⟨c, H⟩ := H
              | (with_reducible replace H := sOr H); obtain ⟨c, H⟩ | ⟨c, H⟩ := H
             all_goals cases H
             all_goals (replace H0 := Hold.mk H0; have H := H0; clear H0)
             all_goals (
              replace H := H.out
              (try simp only [List.length_append, List.length_cons, List.length_nil, Nat.zero_add, beq_dec, bne_dec, Bool.or_eq_true, Bool.and_eq_true, Bool.not_eq_true', decide_eq_true_eq, decide_eq_false_iff_not, ite_or', ite_and', ite_not', ge_iff_le, gt_iff_lt] at H)
              repeat' first
               | (with_reducible replace H := sBindA H (by assumption))
               | (with_reducible replace H := sBindS H)
               | (with_reducible replace H := sBind H); obtain ⟨t, hA, H⟩ := H
               | (with_reducible replace H := sBool H); obtain ⟨c, H⟩ | ⟨c, H⟩ := H
               | (with_reducible replace H := sEq H); obtain ⟨c, c', H⟩ | ⟨c, c', H⟩ := H
               | (with_reducible replace H := sEqL H); obtain ⟨c, H⟩ | ⟨c, H⟩ := H
               | (with_reducible replace H := sIte H); obtain ⟨c, H⟩ | ⟨c, H⟩ := H
               | (with_reducible replace H := sAnd H); obtain ⟨c, H⟩ | ⟨c, H⟩ := H
               | (with_reducible replace H := sOr H); obtain ⟨c, H⟩ | ⟨c, H⟩ := H
              all_goals first
               | cases H
               | replace H := Hold.mk H
              all_goals repeat (first
               | apply Ok.seq
               | apply Ok.skip
               | (apply Ok.rN [0, 1, 2, 4, 5, 6, 19, 20, 29, 38, 51, 69, 85, 93] hP hn hx; exact BR.go; exact BV.go)
               | (apply Ok.gS)
               | (apply Ok.cn; exact BS.go)
               | apply Ok.block
               | apply Ok.inBlock
               | (apply Ok.ex; exact BR.go)
               | (apply goE.e [0, 1, 2, 4, 5, 6, 19, 20, 29, 38, 51, 69, 85, 93] hP hn hx; exact BR.go; exact BV.go)
               | (apply goE.n hP hn hx; exact BR.go; exact BJ.go; exact BU.go)
               | (apply goE.q; exact BR.go; exact BG.go; exact BW.go)
               | (apply goQ.t hP; exact BR.go; exact BR.go; exact BS.go)
               | (apply goQ.f hn hx; exact BR.go; exact BR.go; exact BE.go)
               | (apply goK.k hP hn hx; exact spec_l01In.link _ _ _ _ (by assumption); exact BS.go)
               | (apply goK.k hP hn hx; exact spec_l05Statement.link _ _ (by assumption); exact BS.go)
               | (apply goK.k hP hn hx; exact spec_l05Kid.link _ _ _ _ _ _ (by assumption); exact BS.go)
               | (apply goK.k hP hn hx; exact spec_l05Values.link _ _ _ _ _ _ _ (by assumption); exact BS.go)
               | (apply goK.k hP hn hx; exact spec_l05Blocks.link _ _ _ _ _ _ _ (by assumption); exact BS.go)
               | (apply Ok.bk #[.tmp 4] hC.out hP hx hF; exact BR.go; exact BF.go; exact BF.go; exact BF.go; exact BM.go; exact BR.go; exact BR.go; exact BR.go; exact B1.go; exact BR.go)))
           · (try simp only [List.length_append, List.length_cons, List.length_nil, Nat.zero_add, beq_dec, bne_dec, Bool.or_eq_true, Bool.and_eq_true, Bool.not_eq_true', decide_eq_true_eq, decide_eq_false_iff_not, ite_or', ite_and', ite_not', ge_iff_le, gt_iff_lt] at H)
             repeat' first
              | (with_reducible replace H := sBindA H (by assumption))
              | (with_reducible replace H := sBindS H)
              | (with_reducible replace H := sBind H); obtain ⟨t, hA, H⟩ := H
              | (with_reducible replace H := sBool H); obtain ⟨c, H⟩ | ⟨c, H⟩ := H
              | (with_reducible replace H := sEq H); obtain ⟨c, c', H⟩ | ⟨c, c', H⟩ := H
              | (with_reducible replace H := sEqL H); obtain ⟨c, H⟩ | ⟨c, H⟩ := H
              | (with_reducible replace H := sIte H); obtain ⟨c, H⟩ | ⟨c, H⟩ := H
              | (with_reducible replace H := sAnd H); obtain ⟨c, H⟩ | ⟨c, H⟩ := H
              | (with_reducible replace H := sOr H); obtain ⟨c, H⟩ | ⟨c, H⟩ := H
             all_goals cases H
             all_goals (replace H0 := Hold.mk H0; have H := H0; clear H0)
             all_goals (
              obtain ⟨H, H0⟩ | ⟨H, H0⟩ := sIteU H.out
              · (try simp only [List.length_append, List.length_cons, List.length_nil, Nat.zero_add, beq_dec, bne_dec, Bool.or_eq_true, Bool.and_eq_true, Bool.not_eq_true', decide_eq_true_eq, decide_eq_false_iff_not, ite_or', ite_and', ite_not', ge_iff_le, gt_iff_lt] at H)
                repeat' first
                 | (with_reducible replace H := sBindA H (by assumption))
                 | (with_reducible replace H := sBindS H)
                 | (with_reducible replace H := sBind H); obtain ⟨t, hA, H⟩ := H
                 | (with_reducible replace H := sBool H); obtain ⟨c, H⟩ | ⟨c, H⟩ := H
                 | (with_reducible replace H := sEq H); obtain ⟨c, c', H⟩ | ⟨c, c', H⟩ := H
                 | (with_reducible replace H := sEqL H); obtain ⟨c, H⟩ | ⟨c, H⟩ := H
                 | (with_reducible replace H := sIte H); obtain ⟨c, H⟩ | ⟨c, H⟩ := H
                 | (with_reducible replace H := sAnd H); obtain ⟨c, H⟩ | ⟨c, H⟩ := H
                 | (with_reducible replace H := sOr H); obtain ⟨c, H⟩ | ⟨c, H⟩ := H
                all_goals cases H
                all_goals (replace H0 := Hold.mk H0; have H := H0; clear H0)
                all_goals (
                 replace H := H.out
                 (try simp only [List.length_append, List.length_cons, List.length_nil, Nat.zero_add, beq_dec, bne_dec, Bool.or_eq_true, Bool.and_eq_true, Bool.not_eq_true', decide_eq_true_eq, decide_eq_false_iff_not, ite_or', ite_and', ite_not', ge_iff_le, gt_iff_lt] at H)
                 repeat' first
                  | (with_reducible replace H := sBindA H (by assumption))
                  | (with_reducible replace H := sBindS H)
                  | (with_reducible replace H := sBind H); obtain ⟨t, hA, H⟩ := H
                  | (with_reducible replace H := sBool H); obtain ⟨c, H⟩ | ⟨c, H⟩ := H
                  | (with_reducible replace H := sEq H); obtain ⟨c, c', H⟩ | ⟨c, c', H⟩ := H
                  | (with_reducible replace H := sEqL H); obtain ⟨c, H⟩ | ⟨c, H⟩ := H
                  | (with_reducible replace H := sIte H); obtain ⟨c, H⟩ | ⟨c, H⟩ := H
                  | (with_reducible replace H := sAnd H); obtain ⟨c, H⟩ | ⟨c, H⟩ := H
                  | (with_reducible replace H := sOr H); obtain ⟨c, H⟩ | ⟨c, H⟩ := H
                 all_goals first
                  | cases H
                  | replace H := Hold.mk H
                 all_goals repeat (first
                  | apply Ok.seq
                  | apply Ok.skip
                  | (apply Ok.rN [0, 1, 2, 4, 5, 6, 19, 20, 29, 38, 51, 69, 85, 93] hP hn hx; exact BR.go; exact BV.go)
                  | (apply Ok.gS)
                  | (apply Ok.cn; exact BS.go)
                  | apply Ok.block
                  | apply Ok.inBlock
                  | (apply Ok.ex; exact BR.go)
                  | (apply goE.e [0, 1, 2, 4, 5, 6, 19, 20, 29, 38, 51, 69, 85, 93] hP hn hx; exact BR.go; exact BV.go)
                  | (apply goE.n hP hn hx; exact BR.go; exact BJ.go; exact BU.go)
                  | (apply goE.q; exact BR.go; exact BG.go; exact BW.go)
                  | (apply goQ.t hP; exact BR.go; exact BR.go; exact BS.go)
                  | (apply goQ.f hn hx; exact BR.go; exact BR.go; exact BE.go)
                  | (apply goK.k hP hn hx; exact spec_l01In.link _ _ _ _ (by assumption); exact BS.go)
                  | (apply goK.k hP hn hx; exact spec_l05Statement.link _ _ (by assumption); exact BS.go)
                  | (apply goK.k hP hn hx; exact spec_l05Kid.link _ _ _ _ _ _ (by assumption); exact BS.go)
                  | (apply goK.k hP hn hx; exact spec_l05Values.link _ _ _ _ _ _ _ (by assumption); exact BS.go)
                  | (apply goK.k hP hn hx; exact spec_l05Blocks.link _ _ _ _ _ _ _ (by assumption); exact BS.go)
                  | (apply Ok.bk #[.tmp 4] hC.out hP hx hF; exact BR.go; exact BF.go; exact BF.go; exact BF.go; exact BM.go; exact BR.go; exact BR.go; exact BR.go; exact B1.go; exact BR.go)))
              · (try simp only [List.length_append, List.length_cons, List.length_nil, Nat.zero_add, beq_dec, bne_dec, Bool.or_eq_true, Bool.and_eq_true, Bool.not_eq_true', decide_eq_true_eq, decide_eq_false_iff_not, ite_or', ite_and', ite_not', ge_iff_le, gt_iff_lt] at H)
                repeat' first
                 | (with_reducible replace H := sBindA H (by assumption))
                 | (with_reducible replace H := sBindS H)
                 | (with_reducible replace H := sBind H); obtain ⟨t, hA, H⟩ := H
                 | (with_reducible replace H := sBool H); obtain ⟨c, H⟩ | ⟨c, H⟩ := H
                 | (with_reducible replace H := sEq H); obtain ⟨c, c', H⟩ | ⟨c, c', H⟩ := H
                 | (with_reducible replace H := sEqL H); obtain ⟨c, H⟩ | ⟨c, H⟩ := H
                 | (with_reducible replace H := sIte H); obtain ⟨c, H⟩ | ⟨c, H⟩ := H
                 | (with_reducible replace H := sAnd H); obtain ⟨c, H⟩ | ⟨c, H⟩ := H
                 | (with_reducible replace H := sOr H); obtain ⟨c, H⟩ | ⟨c, H⟩ := H
                all_goals cases H
                all_goals (replace H0 := Hold.mk H0; have H := H0; clear H0)
                all_goals (
                 repeat (first
                  | refine Ok.cutI 38 (fun X => ∃ x1, ∃ x5, ∃ x19, ∃ x38, ∃ x274000, ∃ x274001, ∃ x274002, ∃ q, X = ⟨[(1, .dat false [.sc (.int .i64 x1)]), (2, .pl 0 none 0), (5, .dat false [.sc (.int .i64 x5)]), (19, .dat false [.sc (.int .i64 x19)]), (38, .dat false [.sc (.bool x38)])], [(0, .mem [.sl none 6 (List.flatMap e77 x274000), .sl none 4 (List.flatMap e106 x274001), .sl none 4 (List.flatMap e103 x274002)])]⟩ ∧ q ≤ kqj0_1 ∧ spec_l05Kids.j1 q x1 x5 x19 x38 x274000 x274001 x274002 = some r) ?_ ?_
                  | apply Ok.seq
                  | apply Ok.skip
                  | (apply Ok.rN [0, 1, 2, 4, 5, 6, 19, 20, 29, 38, 51, 69, 85, 93] hP hn hx; exact BR.go; exact BV.go)
                  | (apply Ok.gS)
                  | (apply Ok.cn; exact BS.go)
                  | apply Ok.block
                  | apply Ok.inBlock
                  | (apply Ok.ex; exact BR.go)
                  | (apply goE.e [0, 1, 2, 4, 5, 6, 19, 20, 29, 38, 51, 69, 85, 93] hP hn hx; exact BR.go; exact BV.go)
                  | (apply goE.n hP hn hx; exact BR.go; exact BJ.go; exact BU.go)
                  | (apply goE.q; exact BR.go; exact BG.go; exact BW.go)
                  | (apply goQ.t hP; exact BR.go; exact BR.go; exact BS.go)
                  | (apply goQ.f hn hx; exact BR.go; exact BR.go; exact BE.go)
                  | (apply goK.k hP hn hx; exact spec_l01In.link _ _ _ _ (by assumption); exact BS.go)
                  | (apply goK.k hP hn hx; exact spec_l05Statement.link _ _ (by assumption); exact BS.go)
                  | (apply goK.k hP hn hx; exact spec_l05Kid.link _ _ _ _ _ _ (by assumption); exact BS.go)
                  | (apply goK.k hP hn hx; exact spec_l05Values.link _ _ _ _ _ _ _ (by assumption); exact BS.go)
                  | (apply goK.k hP hn hx; exact spec_l05Blocks.link _ _ _ _ _ _ _ (by assumption); exact BS.go)
                  | (apply Ok.bk #[.tmp 4] hC.out hP hx hF; exact BR.go; exact BF.go; exact BF.go; exact BF.go; exact BM.go; exact BR.go; exact BR.go; exact BR.go; exact B1.go; exact BR.go))
                 · intro hjj1
                   replace H := H.out
                   (try simp only [List.length_append, List.length_cons, List.length_nil, Nat.zero_add, beq_dec, bne_dec, Bool.or_eq_true, Bool.and_eq_true, Bool.not_eq_true', decide_eq_true_eq, decide_eq_false_iff_not, ite_or', ite_and', ite_not', ge_iff_le, gt_iff_lt] at H)
                   repeat' first
                    | (with_reducible replace H := sBindA H (by assumption))
                    | (with_reducible replace H := sBindS H)
                    | (with_reducible replace H := sBind H); obtain ⟨t, hA, H⟩ := H
                    | (with_reducible replace H := sBool H); obtain ⟨c, H⟩ | ⟨c, H⟩ := H
                    | (with_reducible replace H := sEq H); obtain ⟨c, c', H⟩ | ⟨c, c', H⟩ := H
                    | (with_reducible replace H := sEqL H); obtain ⟨c, H⟩ | ⟨c, H⟩ := H
                    | (with_reducible replace H := sIte H); obtain ⟨c, H⟩ | ⟨c, H⟩ := H
                    | (with_reducible replace H := sAnd H); obtain ⟨c, H⟩ | ⟨c, H⟩ := H
                    | (with_reducible replace H := sOr H); obtain ⟨c, H⟩ | ⟨c, H⟩ := H
                   all_goals first
                    | cases H
                    | replace H := Hold.mk H
                   all_goals repeat (first
                    | (apply Ok.mt [1, 2, 5, 19, 38] hjj1; exact BT.go; exact ⟨_, _, _, _, _, _, _, kqj0_1, by first | rfl | (simp (disch := omega) only [go_sem, ↓reduceIte, eq_self, and_self]; done), by omega, by first | exact H.out | (have h0 := H.out; simp only [*, go_sem, ↓reduceIte, reduceCtorEq] at h0 ⊢; exact h0)⟩; done)
                    | apply Ok.seq
                    | apply Ok.skip
                    | (apply Ok.rN [0, 1, 2, 4, 5, 6, 19, 20, 29, 38, 51, 69, 85, 93] hP hn hx; exact BR.go; exact BV.go)
                    | (apply Ok.gS)
                    | (apply Ok.cn; exact BS.go)
                    | apply Ok.block
                    | apply Ok.inBlock
                    | (apply Ok.ex; exact BR.go)
                    | (apply goE.e [0, 1, 2, 4, 5, 6, 19, 20, 29, 38, 51, 69, 85, 93] hP hn hx; exact BR.go; exact BV.go)
                    | (apply goE.n hP hn hx; exact BR.go; exact BJ.go; exact BU.go)
                    | (apply goE.q; exact BR.go; exact BG.go; exact BW.go)
                    | (apply goQ.t hP; exact BR.go; exact BR.go; exact BS.go)
                    | (apply goQ.f hn hx; exact BR.go; exact BR.go; exact BE.go)
                    | (apply goK.k hP hn hx; exact spec_l01In.link _ _ _ _ (by assumption); exact BS.go)
                    | (apply goK.k hP hn hx; exact spec_l05Statement.link _ _ (by assumption); exact BS.go)
                    | (apply goK.k hP hn hx; exact spec_l05Kid.link _ _ _ _ _ _ (by assumption); exact BS.go)
                    | (apply goK.k hP hn hx; exact spec_l05Values.link _ _ _ _ _ _ _ (by assumption); exact BS.go)
                    | (apply goK.k hP hn hx; exact spec_l05Blocks.link _ _ _ _ _ _ _ (by assumption); exact BS.go)
                    | (apply Ok.bk #[.tmp 4] hC.out hP hx hF; exact BR.go; exact BF.go; exact BF.go; exact BF.go; exact BM.go; exact BR.go; exact BR.go; exact BR.go; exact B1.go; exact BR.go))
                 · clear H
                   intro X hJ
                   obtain ⟨x1, x5, x19, x38, x274000, x274001, x274002, qj1_2, rfl, hq, H⟩ := hJ
                   (cases qj1_2 with
                    | zero => (simp only [spec_l05Kids.j1] at H; cases H)
                    | succ kqj1_2 =>
                     simp only [spec_l05Kids.j1, List.length_append, List.length_cons, List.length_nil, Nat.zero_add, beq_dec, bne_dec, Bool.or_eq_true, Bool.and_eq_true, Bool.not_eq_true', decide_eq_true_eq, decide_eq_false_iff_not, ite_or', ite_and', ite_not', ge_iff_le, gt_iff_lt] at H
                     repeat' first
                      | (with_reducible replace H := sBindA H (by assumption))
                      | (with_reducible replace H := sBindS H)
                      | (with_reducible replace H := sBind H); obtain ⟨t, hA, H⟩ := H
                      | (with_reducible replace H := sBool H); obtain ⟨c, H⟩ | ⟨c, H⟩ := H
                      | (with_reducible replace H := sEq H); obtain ⟨c, c', H⟩ | ⟨c, c', H⟩ := H
                      | (with_reducible replace H := sEqL H); obtain ⟨c, H⟩ | ⟨c, H⟩ := H
                      | (with_reducible replace H := sIte H); obtain ⟨c, H⟩ | ⟨c, H⟩ := H
                      | (with_reducible replace H := sAnd H); obtain ⟨c, H⟩ | ⟨c, H⟩ := H
                      | (with_reducible replace H := sOr H); obtain ⟨c, H⟩ | ⟨c, H⟩ := H
                     all_goals first
                      | cases H
                      | replace H := Hold.mk H
                     all_goals repeat (first
                      | apply Ok.seq
                      | apply Ok.skip
                      | (apply Ok.rN [0, 1, 2, 4, 5, 6, 19, 20, 29, 38, 51, 69, 85, 93] hP hn hx; exact BR.go; exact BV.go)
                      | (apply Ok.gS)
                      | (apply Ok.cn; exact BS.go)
                      | apply Ok.block
                      | apply Ok.inBlock
                      | (apply Ok.ex; exact BR.go)
                      | (apply goE.e [0, 1, 2, 4, 5, 6, 19, 20, 29, 38, 51, 69, 85, 93] hP hn hx; exact BR.go; exact BV.go)
                      | (apply goE.n hP hn hx; exact BR.go; exact BJ.go; exact BU.go)
                      | (apply goE.q; exact BR.go; exact BG.go; exact BW.go)
                      | (apply goQ.t hP; exact BR.go; exact BR.go; exact BS.go)
                      | (apply goQ.f hn hx; exact BR.go; exact BR.go; exact BE.go)
                      | (apply goK.k hP hn hx; exact spec_l01In.link _ _ _ _ (by assumption); exact BS.go)
                      | (apply goK.k hP hn hx; exact spec_l05Statement.link _ _ (by assumption); exact BS.go)
                      | (apply goK.k hP hn hx; exact spec_l05Kid.link _ _ _ _ _ _ (by assumption); exact BS.go)
                      | (apply goK.k hP hn hx; exact spec_l05Values.link _ _ _ _ _ _ _ (by assumption); exact BS.go)
                      | (apply goK.k hP hn hx; exact spec_l05Blocks.link _ _ _ _ _ _ _ (by assumption); exact BS.go)
                      | (apply Ok.bk #[.tmp 4] hC.out hP hx hF; exact BR.go; exact BF.go; exact BF.go; exact BF.go; exact BM.go; exact BR.go; exact BR.go; exact BR.go; exact B1.go; exact BR.go)
                      | (apply Ok.lq [1, 2, 5, 6] (fun q X => ∃ x1, ∃ x5, ∃ x6, ∃ x274000, ∃ x274001, ∃ x274002, X = ⟨[(1, .dat false [.sc (.int .i64 x1)]), (2, .pl 0 none 0), (5, .dat false [.sc (.int .i64 x5)]), (6, .dat false [.sc (.int .i64 x6)])], [(0, .mem [.sl none 6 (List.flatMap e77 x274000), .sl none 4 (List.flatMap e106 x274001), .sl none 4 (List.flatMap e103 x274002)])]⟩ ∧ q ≤ kqj1_2 ∧ spec_l05Kids.l0 q x1 x5 x6 x274000 x274001 x274002 = some r); exact BT.go; exact ⟨_, _, _, _, _, _, _, by first | rfl | (simp (disch := omega) only [go_sem, ↓reduceIte, eq_self, and_self]; done), by omega, H.out⟩))
                     all_goals intro q0_3 X hJ ih0
                     all_goals clear H
                     all_goals obtain ⟨x1, x5, x6, x274000, x274001, x274002, rfl, hq, H⟩ := hJ
                     all_goals (cases q0_3 with
                      | zero => (simp only [spec_l05Kids.l0] at H; cases H)
                      | succ kq0_3 =>
                       simp only [spec_l05Kids.l0, List.length_append, List.length_cons, List.length_nil, Nat.zero_add, beq_dec, bne_dec, Bool.or_eq_true, Bool.and_eq_true, Bool.not_eq_true', decide_eq_true_eq, decide_eq_false_iff_not, ite_or', ite_and', ite_not', ge_iff_le, gt_iff_lt] at H
                       repeat' first
                        | (with_reducible replace H := sBindA H (by assumption))
                        | (with_reducible replace H := sBindS H)
                        | (with_reducible replace H := sBind H); obtain ⟨t, hA, H⟩ := H
                        | (with_reducible replace H := sBool H); obtain ⟨c, H⟩ | ⟨c, H⟩ := H
                        | (with_reducible replace H := sEq H); obtain ⟨c, c', H⟩ | ⟨c, c', H⟩ := H
                        | (with_reducible replace H := sEqL H); obtain ⟨c, H⟩ | ⟨c, H⟩ := H
                        | (with_reducible replace H := sIte H); obtain ⟨c, H⟩ | ⟨c, H⟩ := H
                        | (with_reducible replace H := sAnd H); obtain ⟨c, H⟩ | ⟨c, H⟩ := H
                        | (with_reducible replace H := sOr H); obtain ⟨c, H⟩ | ⟨c, H⟩ := H
                       all_goals first
                        | cases H
                        | replace H := Hold.mk H
                       all_goals repeat (first
                        | apply Ok.seq
                        | apply Ok.skip
                        | (apply Ok.rN [0, 1, 2, 4, 5, 6, 19, 20, 29, 38, 51, 69, 85, 93] hP hn hx; exact BR.go; exact BV.go)
                        | (apply Ok.gS)
                        | (apply Ok.cn; exact BS.go)
                        | apply Ok.block
                        | apply Ok.inBlock
                        | (apply Ok.ex; exact BR.go)
                        | (apply goE.e [0, 1, 2, 4, 5, 6, 19, 20, 29, 38, 51, 69, 85, 93] hP hn hx; exact BR.go; exact BV.go)
                        | (apply goE.n hP hn hx; exact BR.go; exact BJ.go; exact BU.go)
                        | (apply goE.q; exact BR.go; exact BG.go; exact BW.go)
                        | (apply goQ.t hP; exact BR.go; exact BR.go; exact BS.go)
                        | (apply goQ.f hn hx; exact BR.go; exact BR.go; exact BE.go)
                        | (apply goK.k hP hn hx; exact spec_l01In.link _ _ _ _ (by assumption); exact BS.go)
                        | (apply goK.k hP hn hx; exact spec_l05Statement.link _ _ (by assumption); exact BS.go)
                        | (apply goK.k hP hn hx; exact spec_l05Kid.link _ _ _ _ _ _ (by assumption); exact BS.go)
                        | (apply goK.k hP hn hx; exact spec_l05Values.link _ _ _ _ _ _ _ (by assumption); exact BS.go)
                        | (apply goK.k hP hn hx; exact spec_l05Blocks.link _ _ _ _ _ _ _ (by assumption); exact BS.go)
                        | (apply Ok.bk #[.tmp 4] hC.out hP hx hF; exact BR.go; exact BF.go; exact BF.go; exact BF.go; exact BM.go; exact BR.go; exact BR.go; exact BR.go; exact B1.go; exact BR.go)
                        | (apply Ok.ag [1, 2, 5, 6] ih0; exact BT.go; exact ⟨_, by omega, _, _, _, _, _, _, by first | rfl | (simp (disch := omega) only [go_sem, ↓reduceIte, eq_self, and_self]; done), by omega, H.out⟩; done))))))))
    · (try simp only [List.length_append, List.length_cons, List.length_nil, Nat.zero_add, beq_dec, bne_dec, Bool.or_eq_true, Bool.and_eq_true, Bool.not_eq_true', decide_eq_true_eq, decide_eq_false_iff_not, ite_or', ite_and', ite_not', ge_iff_le, gt_iff_lt] at H)
      repeat' first
       | (with_reducible replace H := sBindA H (by assumption))
       | (with_reducible replace H := sBindS H)
       | (with_reducible replace H := sBind H); obtain ⟨t, hA, H⟩ := H
       | (with_reducible replace H := sBool H); obtain ⟨c, H⟩ | ⟨c, H⟩ := H
       | (with_reducible replace H := sEq H); obtain ⟨c, c', H⟩ | ⟨c, c', H⟩ := H
       | (with_reducible replace H := sEqL H); obtain ⟨c, H⟩ | ⟨c, H⟩ := H
       | (with_reducible replace H := sIte H); obtain ⟨c, H⟩ | ⟨c, H⟩ := H
       | (with_reducible replace H := sAnd H); obtain ⟨c, H⟩ | ⟨c, H⟩ := H
       | (with_reducible replace H := sOr H); obtain ⟨c, H⟩ | ⟨c, H⟩ := H
      all_goals cases H
      all_goals (replace H0 := Hold.mk H0; have H := H0; clear H0)
      all_goals (
       cases H.out))
 · (try simp only [List.length_append, List.length_cons, List.length_nil, Nat.zero_add, beq_dec, bne_dec, Bool.or_eq_true, Bool.and_eq_true, Bool.not_eq_true', decide_eq_true_eq, decide_eq_false_iff_not, ite_or', ite_and', ite_not', ge_iff_le, gt_iff_lt] at H)
   repeat' first
    | (with_reducible replace H := sBindA H (by assumption))
    | (with_reducible replace H := sBindS H)
    | (with_reducible replace H := sBind H); obtain ⟨t, hA, H⟩ := H
    | (with_reducible replace H := sBool H); obtain ⟨c, H⟩ | ⟨c, H⟩ := H
    | (with_reducible replace H := sEq H); obtain ⟨c, c', H⟩ | ⟨c, c', H⟩ := H
    | (with_reducible replace H := sEqL H); obtain ⟨c, H⟩ | ⟨c, H⟩ := H
    | (with_reducible replace H := sIte H); obtain ⟨c, H⟩ | ⟨c, H⟩ := H
    | (with_reducible replace H := sAnd H); obtain ⟨c, H⟩ | ⟨c, H⟩ := H
    | (with_reducible replace H := sOr H); obtain ⟨c, H⟩ | ⟨c, H⟩ := H
   all_goals cases H
   all_goals (replace H0 := Hold.mk H0; have H := H0; clear H0)
   all_goals (
    cases H.out)
attribute [local go_sem] inLine Option.map_some in
set_option maxHeartbeats 8000000 in
theorem spec_l04Keys.link  (r : List ByteArray) (H : spec_l04Keys.f = some r) : ACalls Try.prog 145 [] [(false, [.sl (some 0) 1 (List.flatMap eS r)])] [] := by
 refine ACalls.enter Try.func145 (by kernel_rfl) rfl (by rw [Try.ntmps145]; exact Nat.le_of_ble_eq_true rfl) (fun C F hC hP hf hn hx => ?_)
 rw [Try.ntmps145] at hn
 have hF : Try.prog.funcs[C.fid]? = some Try.f145 := hf ▸ Try.func145
 replace hC := Hold.mk hC
 replace hx : C.fx = [] := hx
 simp only [entry, entE, enumM, rwA, rwC, Nat.reduceAdd] at ⊢
 simp only [spec_l04Keys.f, List.length_append, List.length_cons, List.length_nil, Nat.zero_add, beq_dec, bne_dec, Bool.or_eq_true, Bool.and_eq_true, Bool.not_eq_true', decide_eq_true_eq, decide_eq_false_iff_not, ite_or', ite_and', ite_not', ge_iff_le, gt_iff_lt] at H
 repeat' first
  | (with_reducible replace H := sBindA H (by assumption))
  | (with_reducible replace H := sBindS H)
  | (with_reducible replace H := sBind H); obtain ⟨t, hA, H⟩ := H
  | (with_reducible replace H := sBool H); obtain ⟨c, H⟩ | ⟨c, H⟩ := H
  | (with_reducible replace H := sEq H); obtain ⟨c, c', H⟩ | ⟨c, c', H⟩ := H
  | (with_reducible replace H := sEqL H); obtain ⟨c, H⟩ | ⟨c, H⟩ := H
  | (with_reducible replace H := sIte H); obtain ⟨c, H⟩ | ⟨c, H⟩ := H
  | (with_reducible replace H := sAnd H); obtain ⟨c, H⟩ | ⟨c, H⟩ := H
  | (with_reducible replace H := sOr H); obtain ⟨c, H⟩ | ⟨c, H⟩ := H
 all_goals first
  | cases H
  | replace H := Hold.mk H
 all_goals repeat (first
  | apply Ok.seq
  | apply Ok.skip
  | (apply Ok.rN [0] hP hn hx; exact BR.go; exact BV.go)
  | (apply Ok.cn; exact BS.go)
  | apply Ok.block
  | apply Ok.inBlock
  | (apply Ok.ex; exact BR.go)
  | (apply Ok.bk #[.tmp 0] hC.out hP hx hF; exact BR.go; exact BF.go; exact BF.go; exact BF.go; exact BM.go; exact BR.go; exact BR.go; exact BR.go; exact B1.go; exact BR.go))
set_option maxHeartbeats 8000000 in
theorem spec_KeyWord.link (k : Nat) (a0 : ByteArray) (r : Bool) (H : spec_KeyWord.f k a0 = some r) : ACalls Try.prog 126 [.dat false [.sc (.string a0)]] [(false, [.sc (.bool r)])] [.dat false [.sc (.string a0)]] := by
 refine ACalls.enter Try.func126 (by kernel_rfl) rfl (by rw [Try.ntmps126]; exact Nat.le_of_ble_eq_true rfl) (fun C F hC hP hf hn hx => ?_)
 rw [Try.ntmps126] at hn
 have hF : Try.prog.funcs[C.fid]? = some Try.f126 := hf ▸ Try.func126
 replace hC := Hold.mk hC
 replace hx : C.fx = [] := hx
 simp only [entry, entE, enumM, rwA, rwC, Nat.reduceAdd] at ⊢
 simp only [spec_KeyWord.f, List.length_append, List.length_cons, List.length_nil, Nat.zero_add, beq_dec, bne_dec, Bool.or_eq_true, Bool.and_eq_true, Bool.not_eq_true', decide_eq_true_eq, decide_eq_false_iff_not, ite_or', ite_and', ite_not', ge_iff_le, gt_iff_lt] at H
 repeat' first
  | (with_reducible replace H := sBindA H (by assumption))
  | (with_reducible replace H := sBindS H)
  | (with_reducible replace H := sBind H); obtain ⟨t, hA, H⟩ := H
  | (with_reducible replace H := sBool H); obtain ⟨c, H⟩ | ⟨c, H⟩ := H
  | (with_reducible replace H := sEq H); obtain ⟨c, c', H⟩ | ⟨c, c', H⟩ := H
  | (with_reducible replace H := sEqL H); obtain ⟨c, H⟩ | ⟨c, H⟩ := H
  | (with_reducible replace H := sIte H); obtain ⟨c, H⟩ | ⟨c, H⟩ := H
  | (with_reducible replace H := sAnd H); obtain ⟨c, H⟩ | ⟨c, H⟩ := H
  | (with_reducible replace H := sOr H); obtain ⟨c, H⟩ | ⟨c, H⟩ := H
 all_goals first
  | cases H
  | replace H := Hold.mk H
 all_goals repeat (first
  | apply Ok.seq
  | apply Ok.skip
  | (apply Ok.rN [0, 2, 3, 4, 9, 17] hP hn hx; exact BR.go; exact BV.go)
  | (apply Ok.gS)
  | (apply Ok.cn; exact BS.go)
  | apply Ok.block
  | apply Ok.inBlock
  | (apply Ok.ex; exact BR.go)
  | (apply goE.e [0, 2, 3, 4, 9, 17] hP hn hx; exact BR.go; exact BV.go)
  | (apply goE.n hP hn hx; exact BR.go; exact BJ.go; exact BU.go)
  | (apply goE.q; exact BR.go; exact BG.go; exact BW.go)
  | (apply goQ.t hP; exact BR.go; exact BR.go; exact BS.go)
  | (apply goQ.f hn hx; exact BR.go; exact BR.go; exact BE.go)
  | (apply goK.k hP hn hx; exact spec_l04Keys.link _ (by assumption); exact BS.go)
  | (apply Ok.bk #[.tmp 2] hC.out hP hx hF; exact BR.go; exact BF.go; exact BF.go; exact BF.go; exact BM.go; exact BR.go; exact BR.go; exact BR.go; exact B1.go; exact BR.go)
  | (apply Ok.lq [0, 3, 4] (fun q X => ∃ x0, ∃ x3, ∃ x4, X = ⟨[(0, .dat false [.sc (.string x0)]), (3, .bor 0 none 0 1 false), (4, .dat false [.sc (.int .i64 x4)])], [(0, .vir [.sl (some 0) 1 (List.flatMap eS x3)])]⟩ ∧ q ≤ k ∧ spec_KeyWord.l0 q x0 x3 x4 = some r); exact BT.go; exact ⟨_, _, _, _, by first | rfl | (simp (disch := omega) only [go_sem, ↓reduceIte, eq_self, and_self]; done), by omega, H.out⟩))
 all_goals intro q0_1 X hJ ih0
 all_goals clear H
 all_goals obtain ⟨x0, x3, x4, rfl, hq, H⟩ := hJ
 all_goals (cases q0_1 with
  | zero => (simp only [spec_KeyWord.l0] at H; cases H)
  | succ kq0_1 =>
   simp only [spec_KeyWord.l0, List.length_append, List.length_cons, List.length_nil, Nat.zero_add, beq_dec, bne_dec, Bool.or_eq_true, Bool.and_eq_true, Bool.not_eq_true', decide_eq_true_eq, decide_eq_false_iff_not, ite_or', ite_and', ite_not', ge_iff_le, gt_iff_lt] at H
   repeat' first
    | (with_reducible replace H := sBindA H (by assumption))
    | (with_reducible replace H := sBindS H)
    | (with_reducible replace H := sBind H); obtain ⟨t, hA, H⟩ := H
    | (with_reducible replace H := sBool H); obtain ⟨c, H⟩ | ⟨c, H⟩ := H
    | (with_reducible replace H := sEq H); obtain ⟨c, c', H⟩ | ⟨c, c', H⟩ := H
    | (with_reducible replace H := sEqL H); obtain ⟨c, H⟩ | ⟨c, H⟩ := H
    | (with_reducible replace H := sIte H); obtain ⟨c, H⟩ | ⟨c, H⟩ := H
    | (with_reducible replace H := sAnd H); obtain ⟨c, H⟩ | ⟨c, H⟩ := H
    | (with_reducible replace H := sOr H); obtain ⟨c, H⟩ | ⟨c, H⟩ := H
   all_goals first
    | cases H
    | (exfalso; clear H; omega)
    | replace H := Hold.mk H
   all_goals repeat (first
    | apply Ok.seq
    | apply Ok.skip
    | (apply Ok.rN [0, 2, 3, 4, 9, 17] hP hn hx; exact BR.go; exact BV.go)
    | (apply Ok.gS)
    | (apply Ok.cn; exact BS.go)
    | apply Ok.block
    | apply Ok.inBlock
    | (apply Ok.ex; exact BR.go)
    | (apply goE.e [0, 2, 3, 4, 9, 17] hP hn hx; exact BR.go; exact BV.go)
    | (apply goE.n hP hn hx; exact BR.go; exact BJ.go; exact BU.go)
    | (apply goE.q; exact BR.go; exact BG.go; exact BW.go)
    | (apply goQ.t hP; exact BR.go; exact BR.go; exact BS.go)
    | (apply goQ.f hn hx; exact BR.go; exact BR.go; exact BE.go)
    | (apply goK.k hP hn hx; exact spec_l04Keys.link _ (by assumption); exact BS.go)
    | (apply Ok.bk #[.tmp 2] hC.out hP hx hF; exact BR.go; exact BF.go; exact BF.go; exact BF.go; exact BM.go; exact BR.go; exact BR.go; exact BR.go; exact B1.go; exact BR.go)
    | (apply Ok.ag [0, 3, 4] ih0; exact BT.go; exact ⟨_, by omega, _, _, _, by first | rfl | (simp (disch := omega) only [go_sem, ↓reduceIte, eq_self, and_self]; done), by omega, H.out⟩; done)))
set_option maxHeartbeats 8000000 in
theorem spec_NameOk.link (k : Nat) (a0 : ByteArray) (r : Bool) (H : spec_NameOk.f k a0 = some r) : ACalls Try.prog 77 [.dat false [.sc (.string a0)]] [(false, [.sc (.bool r)])] [.dat false [.sc (.string a0)]] := by
 refine ACalls.enter Try.func77 (by kernel_rfl) rfl (by rw [Try.ntmps77]; exact Nat.le_of_ble_eq_true rfl) (fun C F hC hP hf hn hx => ?_)
 rw [Try.ntmps77] at hn
 have hF : Try.prog.funcs[C.fid]? = some Try.f77 := hf ▸ Try.func77
 replace hC := Hold.mk hC
 replace hx : C.fx = [] := hx
 simp only [entry, entE, enumM, rwA, rwC, Nat.reduceAdd] at ⊢
 simp only [spec_NameOk.f, List.length_append, List.length_cons, List.length_nil, Nat.zero_add, beq_dec, bne_dec, Bool.or_eq_true, Bool.and_eq_true, Bool.not_eq_true', decide_eq_true_eq, decide_eq_false_iff_not, ite_or', ite_and', ite_not', ge_iff_le, gt_iff_lt] at H
 repeat' first
  | (with_reducible replace H := sBindA H (by assumption))
  | (with_reducible replace H := sBindS H)
  | (with_reducible replace H := sBind H); obtain ⟨t, hA, H⟩ := H
  | (with_reducible replace H := sBool H); obtain ⟨c, H⟩ | ⟨c, H⟩ := H
  | (with_reducible replace H := sEq H); obtain ⟨c, c', H⟩ | ⟨c, c', H⟩ := H
  | (with_reducible replace H := sEqL H); obtain ⟨c, H⟩ | ⟨c, H⟩ := H
  | (with_reducible replace H := sIte H); obtain ⟨c, H⟩ | ⟨c, H⟩ := H
  | (with_reducible replace H := sAnd H); obtain ⟨c, H⟩ | ⟨c, H⟩ := H
  | (with_reducible replace H := sOr H); obtain ⟨c, H⟩ | ⟨c, H⟩ := H
 all_goals first
  | cases H
  | replace H := Hold.mk H
 all_goals repeat (first
  | apply Ok.seq
  | apply Ok.skip
  | (apply Ok.rN [0, 2, 3, 7, 19] hP hn hx; exact BR.go; exact BV.go)
  | (apply Ok.gS)
  | (apply Ok.cn; exact BS.go)
  | apply Ok.block
  | apply Ok.inBlock
  | (apply Ok.ex; exact BR.go)
  | (apply goE.e [0, 2, 3, 7, 19] hP hn hx; exact BR.go; exact BV.go)
  | (apply goE.n hP hn hx; exact BR.go; exact BJ.go; exact BU.go)
  | (apply goE.q; exact BR.go; exact BG.go; exact BW.go)
  | (apply goQ.t hP; exact BR.go; exact BR.go; exact BS.go)
  | (apply goQ.f hn hx; exact BR.go; exact BR.go; exact BE.go)
  | (apply goK.k hP hn hx; exact spec_l01In.link _ _ _ _ (by assumption); exact BS.go)
  | (apply goK.k hP hn hx; exact spec_KeyWord.link _ _ _ (by assumption); exact BS.go)
  | (apply Ok.bk #[.tmp 2] hC.out hP hx hF; exact BR.go; exact BF.go; exact BF.go; exact BF.go; exact BM.go; exact BR.go; exact BR.go; exact BR.go; exact B1.go; exact BR.go)
  | (apply Ok.lq [0, 3] (fun q X => ∃ x0, ∃ x3, X = ⟨[(0, .dat false [.sc (.string x0)]), (3, .dat false [.sc (.int .i64 x3)])], []⟩ ∧ q ≤ k ∧ spec_NameOk.l0 q x0 x3 = some r); exact BT.go; exact ⟨_, _, _, by first | rfl | (simp (disch := omega) only [go_sem, ↓reduceIte, eq_self, and_self]; done), by omega, H.out⟩))
 all_goals intro q0_1 X hJ ih0
 all_goals clear H
 all_goals obtain ⟨x0, x3, rfl, hq, H⟩ := hJ
 all_goals (cases q0_1 with
  | zero => (simp only [spec_NameOk.l0] at H; cases H)
  | succ kq0_1 =>
   simp only [spec_NameOk.l0, List.length_append, List.length_cons, List.length_nil, Nat.zero_add, beq_dec, bne_dec, Bool.or_eq_true, Bool.and_eq_true, Bool.not_eq_true', decide_eq_true_eq, decide_eq_false_iff_not, ite_or', ite_and', ite_not', ge_iff_le, gt_iff_lt] at H
   repeat' first
    | (with_reducible replace H := sBindA H (by assumption))
    | (with_reducible replace H := sBindS H)
    | (with_reducible replace H := sBind H); obtain ⟨t, hA, H⟩ := H
    | (with_reducible replace H := sBool H); obtain ⟨c, H⟩ | ⟨c, H⟩ := H
    | (with_reducible replace H := sEq H); obtain ⟨c, c', H⟩ | ⟨c, c', H⟩ := H
    | (with_reducible replace H := sEqL H); obtain ⟨c, H⟩ | ⟨c, H⟩ := H
    | (with_reducible replace H := sIte H); obtain ⟨c, H⟩ | ⟨c, H⟩ := H
    | (with_reducible replace H := sAnd H); obtain ⟨c, H⟩ | ⟨c, H⟩ := H
    | (with_reducible replace H := sOr H); obtain ⟨c, H⟩ | ⟨c, H⟩ := H
   all_goals first
    | cases H
    | (exfalso; clear H; omega)
    | replace H := Hold.mk H
   all_goals repeat (first
    | apply Ok.seq
    | apply Ok.skip
    | (apply Ok.rN [0, 2, 3, 7, 19] hP hn hx; exact BR.go; exact BV.go)
    | (apply Ok.gS)
    | (apply Ok.cn; exact BS.go)
    | apply Ok.block
    | apply Ok.inBlock
    | (apply Ok.ex; exact BR.go)
    | (apply goE.e [0, 2, 3, 7, 19] hP hn hx; exact BR.go; exact BV.go)
    | (apply goE.n hP hn hx; exact BR.go; exact BJ.go; exact BU.go)
    | (apply goE.q; exact BR.go; exact BG.go; exact BW.go)
    | (apply goQ.t hP; exact BR.go; exact BR.go; exact BS.go)
    | (apply goQ.f hn hx; exact BR.go; exact BR.go; exact BE.go)
    | (apply goK.k hP hn hx; exact spec_l01In.link _ _ _ _ (by assumption); exact BS.go)
    | (apply goK.k hP hn hx; exact spec_KeyWord.link _ _ _ (by assumption); exact BS.go)
    | (apply Ok.bk #[.tmp 2] hC.out hP hx hF; exact BR.go; exact BF.go; exact BF.go; exact BF.go; exact BM.go; exact BR.go; exact BR.go; exact BR.go; exact B1.go; exact BR.go)
    | (apply Ok.ag [0, 3] ih0; exact BT.go; exact ⟨_, by omega, _, _, by first | rfl | (simp (disch := omega) only [go_sem, ↓reduceIte, eq_self, and_self]; done), by omega, H.out⟩; done)))
set_option maxHeartbeats 8000000 in
theorem spec_l05Names.link (k : Nat) (l0 : List ByteArray) (a1 : Int) (r : Bool) (H : spec_l05Names.f k l0 a1 = some r) : ACalls Try.prog 129 [.dat false [.sl none 1 (List.flatMap eS l0)], .dat false [.sc (.int .i64 a1)]] [(false, [.sc (.bool r)])] [.dat false [.sl none 1 (List.flatMap eS l0)], .dat false [.sc (.int .i64 a1)]] := by
 refine ACalls.enter Try.func129 (by kernel_rfl) rfl (by rw [Try.ntmps129]; exact Nat.le_of_ble_eq_true rfl) (fun C F hC hP hf hn hx => ?_)
 rw [Try.ntmps129] at hn
 have hF : Try.prog.funcs[C.fid]? = some Try.f129 := hf ▸ Try.func129
 replace hC := Hold.mk hC
 replace hx : C.fx = [] := hx
 simp only [entry, entE, enumM, rwA, rwC, Nat.reduceAdd] at ⊢
 simp only [spec_l05Names.f, List.length_append, List.length_cons, List.length_nil, Nat.zero_add, beq_dec, bne_dec, Bool.or_eq_true, Bool.and_eq_true, Bool.not_eq_true', decide_eq_true_eq, decide_eq_false_iff_not, ite_or', ite_and', ite_not', ge_iff_le, gt_iff_lt] at H
 repeat' first
  | (with_reducible replace H := sBindA H (by assumption))
  | (with_reducible replace H := sBindS H)
  | (with_reducible replace H := sBind H); obtain ⟨t, hA, H⟩ := H
  | (with_reducible replace H := sBool H); obtain ⟨c, H⟩ | ⟨c, H⟩ := H
  | (with_reducible replace H := sEq H); obtain ⟨c, c', H⟩ | ⟨c, c', H⟩ := H
  | (with_reducible replace H := sEqL H); obtain ⟨c, H⟩ | ⟨c, H⟩ := H
  | (with_reducible replace H := sIte H); obtain ⟨c, H⟩ | ⟨c, H⟩ := H
  | (with_reducible replace H := sAnd H); obtain ⟨c, H⟩ | ⟨c, H⟩ := H
  | (with_reducible replace H := sOr H); obtain ⟨c, H⟩ | ⟨c, H⟩ := H
 all_goals first
  | cases H
  | replace H := Hold.mk H
 all_goals repeat (first
  | apply Ok.seq
  | apply Ok.skip
  | (apply Ok.rN [0, 1, 4, 5, 9, 17] hP hn hx; exact BR.go; exact BV.go)
  | (apply Ok.gS)
  | (apply Ok.cn; exact BS.go)
  | apply Ok.block
  | apply Ok.inBlock
  | (apply Ok.ex; exact BR.go)
  | (apply goE.e [0, 1, 4, 5, 9, 17] hP hn hx; exact BR.go; exact BV.go)
  | (apply goE.n hP hn hx; exact BR.go; exact BJ.go; exact BU.go)
  | (apply goE.q; exact BR.go; exact BG.go; exact BW.go)
  | (apply goQ.t hP; exact BR.go; exact BR.go; exact BS.go)
  | (apply goQ.f hn hx; exact BR.go; exact BR.go; exact BE.go)
  | (apply goK.k hP hn hx; exact spec_NameOk.link _ _ _ (by assumption); exact BS.go)
  | (apply Ok.bk #[.tmp 4] hC.out hP hx hF; exact BR.go; exact BF.go; exact BF.go; exact BF.go; exact BM.go; exact BR.go; exact BR.go; exact BR.go; exact B1.go; exact BR.go)
  | (apply Ok.lq [0, 1, 5] (fun q X => ∃ x0, ∃ x1, ∃ x5, X = ⟨[(0, .dat false [.sl none 1 (List.flatMap eS x0)]), (1, .dat false [.sc (.int .i64 x1)]), (5, .dat false [.sc (.int .i64 x5)])], []⟩ ∧ q ≤ k ∧ spec_l05Names.l0 q x0 x1 x5 = some r); exact BT.go; exact ⟨_, _, _, _, by first | rfl | (simp (disch := omega) only [go_sem, ↓reduceIte, eq_self, and_self]; done), by omega, H.out⟩))
 all_goals intro q0_1 X hJ ih0
 all_goals clear H
 all_goals obtain ⟨x0, x1, x5, rfl, hq, H⟩ := hJ
 all_goals (cases q0_1 with
  | zero => (simp only [spec_l05Names.l0] at H; cases H)
  | succ kq0_1 =>
   simp only [spec_l05Names.l0, List.length_append, List.length_cons, List.length_nil, Nat.zero_add, beq_dec, bne_dec, Bool.or_eq_true, Bool.and_eq_true, Bool.not_eq_true', decide_eq_true_eq, decide_eq_false_iff_not, ite_or', ite_and', ite_not', ge_iff_le, gt_iff_lt] at H
   repeat' first
    | (with_reducible replace H := sBindA H (by assumption))
    | (with_reducible replace H := sBindS H)
    | (with_reducible replace H := sBind H); obtain ⟨t, hA, H⟩ := H
    | (with_reducible replace H := sBool H); obtain ⟨c, H⟩ | ⟨c, H⟩ := H
    | (with_reducible replace H := sEq H); obtain ⟨c, c', H⟩ | ⟨c, c', H⟩ := H
    | (with_reducible replace H := sEqL H); obtain ⟨c, H⟩ | ⟨c, H⟩ := H
    | (with_reducible replace H := sIte H); obtain ⟨c, H⟩ | ⟨c, H⟩ := H
    | (with_reducible replace H := sAnd H); obtain ⟨c, H⟩ | ⟨c, H⟩ := H
    | (with_reducible replace H := sOr H); obtain ⟨c, H⟩ | ⟨c, H⟩ := H
   all_goals first
    | cases H
    | (exfalso; clear H; omega)
    | replace H := Hold.mk H
   all_goals repeat (first
    | apply Ok.seq
    | apply Ok.skip
    | (apply Ok.rN [0, 1, 4, 5, 9, 17] hP hn hx; exact BR.go; exact BV.go)
    | (apply Ok.gS)
    | (apply Ok.cn; exact BS.go)
    | apply Ok.block
    | apply Ok.inBlock
    | (apply Ok.ex; exact BR.go)
    | (apply goE.e [0, 1, 4, 5, 9, 17] hP hn hx; exact BR.go; exact BV.go)
    | (apply goE.n hP hn hx; exact BR.go; exact BJ.go; exact BU.go)
    | (apply goE.q; exact BR.go; exact BG.go; exact BW.go)
    | (apply goQ.t hP; exact BR.go; exact BR.go; exact BS.go)
    | (apply goQ.f hn hx; exact BR.go; exact BR.go; exact BE.go)
    | (apply goK.k hP hn hx; exact spec_NameOk.link _ _ _ (by assumption); exact BS.go)
    | (apply Ok.bk #[.tmp 4] hC.out hP hx hF; exact BR.go; exact BF.go; exact BF.go; exact BF.go; exact BM.go; exact BR.go; exact BR.go; exact BR.go; exact B1.go; exact BR.go)
    | (apply Ok.ag [0, 1, 5] ih0; exact BT.go; exact ⟨_, by omega, _, _, _, by first | rfl | (simp (disch := omega) only [go_sem, ↓reduceIte, eq_self, and_self]; done), by omega, H.out⟩; done)))
set_option maxHeartbeats 8000000 in
theorem spec_l05Bodies.link (k : Nat) (l0_0 : List (S77)) (l0_1 : List (S106)) (l0_2 : List (S103)) (r : List Int) (H : spec_l05Bodies.f k l0_0 l0_1 l0_2 = some r) : ACalls Try.prog 88 [.dat true [.sl none 6 (List.flatMap e77 l0_0), .sl none 4 (List.flatMap e106 l0_1), .sl none 4 (List.flatMap e103 l0_2)]] [(false, [.sl (some 0) 1 (List.flatMap eI r)])] [.dat true [.sl none 6 (List.flatMap e77 l0_0), .sl none 4 (List.flatMap e106 l0_1), .sl none 4 (List.flatMap e103 l0_2)]] := by
 refine ACalls.enter Try.func88 (by kernel_rfl) rfl (by rw [Try.ntmps88]; exact Nat.le_of_ble_eq_true rfl) (fun C F hC hP hf hn hx => ?_)
 rw [Try.ntmps88] at hn
 have hF : Try.prog.funcs[C.fid]? = some Try.f88 := hf ▸ Try.func88
 replace hC := Hold.mk hC
 replace hx : C.fx = [] := hx
 simp only [entry, entE, enumM, rwA, rwC, Nat.reduceAdd] at ⊢
 simp only [spec_l05Bodies.f, List.length_append, List.length_cons, List.length_nil, Nat.zero_add, beq_dec, bne_dec, Bool.or_eq_true, Bool.and_eq_true, Bool.not_eq_true', decide_eq_true_eq, decide_eq_false_iff_not, ite_or', ite_and', ite_not', ge_iff_le, gt_iff_lt] at H
 repeat' first
  | (with_reducible replace H := sBindA H (by assumption))
  | (with_reducible replace H := sBindS H)
  | (with_reducible replace H := sBind H); obtain ⟨t, hA, H⟩ := H
  | (with_reducible replace H := sBool H); obtain ⟨c, H⟩ | ⟨c, H⟩ := H
  | (with_reducible replace H := sEq H); obtain ⟨c, c', H⟩ | ⟨c, c', H⟩ := H
  | (with_reducible replace H := sEqL H); obtain ⟨c, H⟩ | ⟨c, H⟩ := H
  | (with_reducible replace H := sIte H); obtain ⟨c, H⟩ | ⟨c, H⟩ := H
  | (with_reducible replace H := sAnd H); obtain ⟨c, H⟩ | ⟨c, H⟩ := H
  | (with_reducible replace H := sOr H); obtain ⟨c, H⟩ | ⟨c, H⟩ := H
 all_goals first
  | cases H
  | replace H := Hold.mk H
 all_goals (try simp only [List.length_append, List.length_cons, List.length_nil, Nat.zero_add] at *)
 all_goals repeat (first
  | apply Ok.seq
  | apply Ok.skip
  | (apply Ok.rN [0, 1, 2, 3, 4, 5, 6, 12, 23, 43] hP hn hx; exact BR.go; exact BV.go)
  | (apply Ok.cn; exact BS.go)
  | apply Ok.block
  | apply Ok.inBlock
  | (apply Ok.ex; exact BR.go)
  | (apply Ok.bk #[.tmp 2] hC.out hP hx hF; exact BR.go; exact BF.go; exact BF.go; exact BF.go; exact BM.go; exact BR.go; exact BR.go; exact BR.go; exact B1.go; exact BR.go)
  | (apply Ok.lq [1, 3, 4] (fun q X => ∃ x3, ∃ x4, ∃ x370000, ∃ x370001, ∃ x370002, X = ⟨[(1, .pl 0 none 0), (3, .bor 1 none 0 1 false), (4, .dat false [.sc (.int .i64 x4)])], [(0, .mem [.sl none 6 (List.flatMap e77 x370000), .sl none 4 (List.flatMap e106 x370001), .sl none 4 (List.flatMap e103 x370002)]), (1, .vir [.sl (some 0) 1 (List.flatMap eI x3)])]⟩ ∧ q ≤ k ∧ spec_l05Bodies.l0 q x3 x4 x370000 x370001 x370002 = some r); exact BT.go; exact ⟨_, _, _, _, _, _, by first | rfl | (simp (disch := omega) only [go_sem, ↓reduceIte, eq_self, and_self]; done), by omega, H.out⟩))
 all_goals intro q0_1 X hJ ih0
 all_goals clear H
 all_goals obtain ⟨x3, x4, x370000, x370001, x370002, rfl, hq, H⟩ := hJ
 all_goals (cases q0_1 with
  | zero => (simp only [spec_l05Bodies.l0] at H; cases H)
  | succ kq0_1 =>
   simp only [spec_l05Bodies.l0, List.length_append, List.length_cons, List.length_nil, Nat.zero_add, beq_dec, bne_dec, Bool.or_eq_true, Bool.and_eq_true, Bool.not_eq_true', decide_eq_true_eq, decide_eq_false_iff_not, ite_or', ite_and', ite_not', ge_iff_le, gt_iff_lt] at H
   repeat' first
    | (with_reducible replace H := sBindA H (by assumption))
    | (with_reducible replace H := sBindS H)
    | (with_reducible replace H := sBind H); obtain ⟨t, hA, H⟩ := H
    | (with_reducible replace H := sBool H); obtain ⟨c, H⟩ | ⟨c, H⟩ := H
    | (with_reducible replace H := sEq H); obtain ⟨c, c', H⟩ | ⟨c, c', H⟩ := H
    | (with_reducible replace H := sEqL H); obtain ⟨c, H⟩ | ⟨c, H⟩ := H
    | (with_reducible replace H := sIte H); obtain ⟨c, H⟩ | ⟨c, H⟩ := H
    | (with_reducible replace H := sAnd H); obtain ⟨c, H⟩ | ⟨c, H⟩ := H
    | (with_reducible replace H := sOr H); obtain ⟨c, H⟩ | ⟨c, H⟩ := H
   all_goals first
    | cases H
    | replace H := Hold.mk H
   all_goals (try simp only [List.length_append, List.length_cons, List.length_nil, Nat.zero_add] at *)
   all_goals repeat (first
    | apply Ok.seq
    | apply Ok.skip
    | (apply Ok.rN [0, 1, 2, 3, 4, 5, 6, 12, 23, 43] hP hn hx; exact BR.go; exact BV.go)
    | (apply Ok.cn; exact BS.go)
    | apply Ok.block
    | apply Ok.inBlock
    | (apply Ok.ex; exact BR.go)
    | (apply Ok.bk #[.tmp 2] hC.out hP hx hF; exact BR.go; exact BF.go; exact BF.go; exact BF.go; exact BM.go; exact BR.go; exact BR.go; exact BR.go; exact B1.go; exact BR.go)
    | (apply Ok.ag [1, 3, 4] ih0; exact BT.go; exact ⟨_, by omega, _, _, _, _, _, by first | rfl | (simp (disch := omega) only [go_sem, ↓reduceIte, eq_self, and_self]; done), by omega, H.out⟩; done)
    | (apply Ok.lq [1, 3, 4, 5] (fun q X => ∃ x3, ∃ x4, ∃ x5, ∃ x370000, ∃ x370001, ∃ x370002, X = ⟨[(1, .pl 0 none 0), (3, .bor 1 none 0 1 false), (4, .dat false [.sc (.int .i64 x4)]), (5, .dat false [.sc (.int .i64 x5)])], [(0, .mem [.sl none 6 (List.flatMap e77 x370000), .sl none 4 (List.flatMap e106 x370001), .sl none 4 (List.flatMap e103 x370002)]), (1, .vir [.sl (some 0) 1 (List.flatMap eI x3)])]⟩ ∧ q ≤ kq0_1 ∧ spec_l05Bodies.l1 q x3 x4 x5 x370000 x370001 x370002 = some r); exact BT.go; exact ⟨_, _, _, _, _, _, _, by first | rfl | (simp (disch := omega) only [go_sem, ↓reduceIte, eq_self, and_self]; done), by omega, H.out⟩)
    | (apply Ok.lq [1, 3, 6] (fun q X => ∃ x3, ∃ x6, ∃ x370000, ∃ x370001, ∃ x370002, X = ⟨[(1, .pl 0 none 0), (3, .bor 1 none 0 1 false), (6, .dat false [.sc (.int .i64 x6)])], [(0, .mem [.sl none 6 (List.flatMap e77 x370000), .sl none 4 (List.flatMap e106 x370001), .sl none 4 (List.flatMap e103 x370002)]), (1, .vir [.sl (some 0) 1 (List.flatMap eI x3)])]⟩ ∧ q ≤ kq0_1 ∧ spec_l05Bodies.l2 q x3 x6 x370000 x370001 x370002 = some r); exact BT.go; exact ⟨_, _, _, _, _, _, by first | rfl | (simp (disch := omega) only [go_sem, ↓reduceIte, eq_self, and_self]; done), by omega, H.out⟩))
   any_goals (
     intro q1_2 X hJ ih1
     clear H
     obtain ⟨x3, x4, x5, x370000, x370001, x370002, rfl, hq, H⟩ := hJ
     (cases q1_2 with
      | zero => (simp only [spec_l05Bodies.l1] at H; cases H)
      | succ kq1_2 =>
       simp only [spec_l05Bodies.l1, List.length_append, List.length_cons, List.length_nil, Nat.zero_add, beq_dec, bne_dec, Bool.or_eq_true, Bool.and_eq_true, Bool.not_eq_true', decide_eq_true_eq, decide_eq_false_iff_not, ite_or', ite_and', ite_not', ge_iff_le, gt_iff_lt] at H
       repeat' first
        | (with_reducible replace H := sBindA H (by assumption))
        | (with_reducible replace H := sBindS H)
        | (with_reducible replace H := sBind H); obtain ⟨t, hA, H⟩ := H
        | (with_reducible replace H := sBool H); obtain ⟨c, H⟩ | ⟨c, H⟩ := H
        | (with_reducible replace H := sEq H); obtain ⟨c, c', H⟩ | ⟨c, c', H⟩ := H
        | (with_reducible replace H := sEqL H); obtain ⟨c, H⟩ | ⟨c, H⟩ := H
        | (with_reducible replace H := sIte H); obtain ⟨c, H⟩ | ⟨c, H⟩ := H
        | (with_reducible replace H := sAnd H); obtain ⟨c, H⟩ | ⟨c, H⟩ := H
        | (with_reducible replace H := sOr H); obtain ⟨c, H⟩ | ⟨c, H⟩ := H
       all_goals first
        | cases H
        | (exfalso; clear H; omega)
        | replace H := Hold.mk H
       all_goals (try simp only [List.length_append, List.length_cons, List.length_nil, Nat.zero_add] at *)
       all_goals repeat (first
        | apply Ok.seq
        | apply Ok.skip
        | (apply Ok.rN [0, 1, 2, 3, 4, 5, 6, 12, 23, 43] hP hn hx; exact BR.go; exact BV.go)
        | (apply Ok.cn; exact BS.go)
        | apply Ok.block
        | apply Ok.inBlock
        | (apply Ok.ex; exact BR.go)
        | (apply Ok.bk #[.tmp 2] hC.out hP hx hF; exact BR.go; exact BF.go; exact BF.go; exact BF.go; exact BM.go; exact BR.go; exact BR.go; exact BR.go; exact B1.go; exact BR.go)
        | (apply Ok.ag [1, 3, 4] ih0; exact BT.go; exact ⟨_, by omega, _, _, _, _, _, by first | rfl | (simp (disch := omega) only [go_sem, ↓reduceIte, eq_self, and_self]; done), by omega, H.out⟩; done)
        | (apply Ok.ag [1, 3, 4, 5] ih1; exact BT.go; exact ⟨_, by omega, _, _, _, _, _, _, by first | rfl | (simp (disch := omega) only [go_sem, ↓reduceIte, eq_self, and_self]; done), by omega, H.out⟩; done))))
   any_goals (
     intro q2_3 X hJ ih2
     clear H
     obtain ⟨x3, x6, x370000, x370001, x370002, rfl, hq, H⟩ := hJ
     (cases q2_3 with
      | zero => (simp only [spec_l05Bodies.l2] at H; cases H)
      | succ kq2_3 =>
       simp only [spec_l05Bodies.l2, List.length_append, List.length_cons, List.length_nil, Nat.zero_add, beq_dec, bne_dec, Bool.or_eq_true, Bool.and_eq_true, Bool.not_eq_true', decide_eq_true_eq, decide_eq_false_iff_not, ite_or', ite_and', ite_not', ge_iff_le, gt_iff_lt] at H
       repeat' first
        | (with_reducible replace H := sBindA H (by assumption))
        | (with_reducible replace H := sBindS H)
        | (with_reducible replace H := sBind H); obtain ⟨t, hA, H⟩ := H
        | (with_reducible replace H := sBool H); obtain ⟨c, H⟩ | ⟨c, H⟩ := H
        | (with_reducible replace H := sEq H); obtain ⟨c, c', H⟩ | ⟨c, c', H⟩ := H
        | (with_reducible replace H := sEqL H); obtain ⟨c, H⟩ | ⟨c, H⟩ := H
        | (with_reducible replace H := sIte H); obtain ⟨c, H⟩ | ⟨c, H⟩ := H
        | (with_reducible replace H := sAnd H); obtain ⟨c, H⟩ | ⟨c, H⟩ := H
        | (with_reducible replace H := sOr H); obtain ⟨c, H⟩ | ⟨c, H⟩ := H
       all_goals first
        | cases H
        | (exfalso; clear H; omega)
        | replace H := Hold.mk H
       all_goals (try simp only [List.length_append, List.length_cons, List.length_nil, Nat.zero_add] at *)
       all_goals repeat (first
        | apply Ok.seq
        | apply Ok.skip
        | (apply Ok.rN [0, 1, 2, 3, 4, 5, 6, 12, 23, 43] hP hn hx; exact BR.go; exact BV.go)
        | (apply Ok.cn; exact BS.go)
        | apply Ok.block
        | apply Ok.inBlock
        | (apply Ok.ex; exact BR.go)
        | (apply Ok.bk #[.tmp 2] hC.out hP hx hF; exact BR.go; exact BF.go; exact BF.go; exact BF.go; exact BM.go; exact BR.go; exact BR.go; exact BR.go; exact B1.go; exact BR.go)
        | (apply Ok.ag [1, 3, 4] ih0; exact BT.go; exact ⟨_, by omega, _, _, _, _, _, by first | rfl | (simp (disch := omega) only [go_sem, ↓reduceIte, eq_self, and_self]; done), by omega, H.out⟩; done)
        | (apply Ok.ag [1, 3, 6] ih2; exact BT.go; exact ⟨_, by omega, _, _, _, _, _, by first | rfl | (simp (disch := omega) only [go_sem, ↓reduceIte, eq_self, and_self]; done), by omega, H.out⟩; done)))))
set_option maxHeartbeats 8000000 in
theorem spec_l05Used.link (k : Nat) (l0_0 : List (S77)) (l0_1 : List (S106)) (l0_2 : List (S103)) (r : List Int) (H : spec_l05Used.f k l0_0 l0_1 l0_2 = some r) : ACalls Try.prog 89 [.dat true [.sl none 6 (List.flatMap e77 l0_0), .sl none 4 (List.flatMap e106 l0_1), .sl none 4 (List.flatMap e103 l0_2)]] [(false, [.sl (some 0) 1 (List.flatMap eI r)])] [.dat true [.sl none 6 (List.flatMap e77 l0_0), .sl none 4 (List.flatMap e106 l0_1), .sl none 4 (List.flatMap e103 l0_2)]] := by
 refine ACalls.enter Try.func89 (by kernel_rfl) rfl (by rw [Try.ntmps89]; exact Nat.le_of_ble_eq_true rfl) (fun C F hC hP hf hn hx => ?_)
 rw [Try.ntmps89] at hn
 have hF : Try.prog.funcs[C.fid]? = some Try.f89 := hf ▸ Try.func89
 replace hC := Hold.mk hC
 replace hx : C.fx = [] := hx
 simp only [entry, entE, enumM, rwA, rwC, Nat.reduceAdd] at ⊢
 simp only [spec_l05Used.f, List.length_append, List.length_cons, List.length_nil, Nat.zero_add, beq_dec, bne_dec, Bool.or_eq_true, Bool.and_eq_true, Bool.not_eq_true', decide_eq_true_eq, decide_eq_false_iff_not, ite_or', ite_and', ite_not', ge_iff_le, gt_iff_lt] at H
 repeat' first
  | (with_reducible replace H := sBindA H (by assumption))
  | (with_reducible replace H := sBindS H)
  | (with_reducible replace H := sBind H); obtain ⟨t, hA, H⟩ := H
  | (with_reducible replace H := sBool H); obtain ⟨c, H⟩ | ⟨c, H⟩ := H
  | (with_reducible replace H := sEq H); obtain ⟨c, c', H⟩ | ⟨c, c', H⟩ := H
  | (with_reducible replace H := sEqL H); obtain ⟨c, H⟩ | ⟨c, H⟩ := H
  | (with_reducible replace H := sIte H); obtain ⟨c, H⟩ | ⟨c, H⟩ := H
  | (with_reducible replace H := sAnd H); obtain ⟨c, H⟩ | ⟨c, H⟩ := H
  | (with_reducible replace H := sOr H); obtain ⟨c, H⟩ | ⟨c, H⟩ := H
 all_goals first
  | cases H
  | (exfalso; clear H; omega)
  | replace H := Hold.mk H
 all_goals repeat (first
  | apply Ok.seq
  | apply Ok.skip
  | (apply Ok.rN [0, 1, 2, 3, 4, 5, 6, 7, 17, 28, 42, 53] hP hn hx; exact BR.go; exact BV.go)
  | (apply Ok.gS)
  | (apply Ok.cn; exact BS.go)
  | apply Ok.block
  | apply Ok.inBlock
  | (apply Ok.ex; exact BR.go)
  | (apply Ok.gD 6 (noneL [0, 1, 2, 3, 4, 5, 6, 7] ++ ((8, some []) :: ([]))) hP mo; exact BK.go)
  | (apply Ok.rD [0, 1, 2, 3, 4, 5, 6, 7, 17, 28, 42, 53] hP hn hx mo; exact BK.go; exact BX.go)
  | (apply goE.e [0, 1, 2, 3, 4, 5, 6, 7, 17, 28, 42, 53] hP hn hx; exact BR.go; exact BV.go)
  | (apply goE.n hP hn hx; exact BR.go; exact BJ.go; exact BU.go)
  | (apply goE.q; exact BR.go; exact BG.go; exact BW.go)
  | (apply goQ.t hP; exact BR.go; exact BR.go; exact BS.go)
  | (apply goQ.f hn hx; exact BR.go; exact BR.go; exact BE.go)
  | (apply goD.z [0, 1, 2, 3, 4, 5, 6, 7, 17, 28, 42, 53]; exact BT.go)
  | (apply goD.n hP hn hx; exact BN.go)
  | (apply goD.q; exact BR.go; exact BG.go; exact BW.go)
  | (apply goQD.t hP; exact BR.go; exact BR.go; exact BS.go)
  | (apply goQD.f hP hn hx; exact BR.go; exact BR.go; exact BE.go; exact BQ.go)
  | (apply goD.x hP hn hx; exact BR.go; exact BG.go; exact BR.go; exact BW.go; exact BS.go; exact BQ.go)
  | (apply goK.k hP hn hx; exact spec_l01In.link _ _ _ _ (by assumption); exact BS.go)
  | (apply goKD.k hP hn hx; exact spec_l01In.link _ _ _ _ (by assumption); exact BS.go; exact BQ.go)
  | (apply goK.k hP hn hx; exact spec_l05Bodies.link _ _ _ _ _ (by assumption); exact BS.go)
  | (apply goKD.k hP hn hx; exact spec_l05Bodies.link _ _ _ _ _ (by assumption); exact BS.go; exact BQ.go)
  | (apply Ok.bk #[.tmp 2] hC.out hP hx hF; exact BR.go; exact BF.go; exact BF.go; exact BF.go; exact BM.go; exact BR.go; exact BR.go; exact BR.go; exact B1.go; exact BR.go)
  | (apply Ok.lq [1, 3, 4, 5] (fun q X => ∃ x3, ∃ x4, ∃ x5, ∃ x384000, ∃ x384001, ∃ x384002, X = ⟨[(1, .pl 0 none 0), (3, .bor 1 none 0 1 false), (4, .bor 2 none 0 1 false), (5, .dat false [.sc (.int .i64 x5)])], [(0, .mem [.sl none 6 (List.flatMap e77 x384000), .sl none 4 (List.flatMap e106 x384001), .sl none 4 (List.flatMap e103 x384002)]), (1, .vir [.sl (some 0) 1 (List.flatMap eI x3)]), (2, .vir [.sl (some 0) 1 (List.flatMap eI x4)])]⟩ ∧ q ≤ k ∧ spec_l05Used.l0 q x3 x4 x5 x384000 x384001 x384002 = some r); exact BT.go; exact ⟨_, _, _, _, _, _, _, by first | rfl | (simp (disch := omega) only [go_sem, ↓reduceIte, eq_self, and_self]; done), by omega, H.out⟩))
 all_goals intro q0_1 X hJ ih0
 all_goals clear H
 all_goals obtain ⟨x3, x4, x5, x384000, x384001, x384002, rfl, hq, H⟩ := hJ
 all_goals (cases q0_1 with
  | zero => (simp only [spec_l05Used.l0] at H; cases H)
  | succ kq0_1 =>
   simp only [spec_l05Used.l0, List.length_append, List.length_cons, List.length_nil, Nat.zero_add, beq_dec, bne_dec, Bool.or_eq_true, Bool.and_eq_true, Bool.not_eq_true', decide_eq_true_eq, decide_eq_false_iff_not, ite_or', ite_and', ite_not', ge_iff_le, gt_iff_lt] at H
   repeat' first
    | (with_reducible replace H := sBindA H (by assumption))
    | (with_reducible replace H := sBindS H)
    | (with_reducible replace H := sBind H); obtain ⟨t, hA, H⟩ := H
    | (with_reducible replace H := sBool H); obtain ⟨c, H⟩ | ⟨c, H⟩ := H
    | (with_reducible replace H := sEq H); obtain ⟨c, c', H⟩ | ⟨c, c', H⟩ := H
    | (with_reducible replace H := sEqL H); obtain ⟨c, H⟩ | ⟨c, H⟩ := H
    | (with_reducible replace H := sIte H); obtain ⟨c, H⟩ | ⟨c, H⟩ := H
    | (with_reducible replace H := sAnd H); obtain ⟨c, H⟩ | ⟨c, H⟩ := H
    | (with_reducible replace H := sOr H); obtain ⟨c, H⟩ | ⟨c, H⟩ := H
   all_goals first
    | cases H
    | (exfalso; clear H; omega)
    | replace H := Hold.mk H
   all_goals repeat (first
    | apply Ok.seq
    | apply Ok.skip
    | (apply Ok.rN [0, 1, 2, 3, 4, 5, 6, 7, 17, 28, 42, 53] hP hn hx; exact BR.go; exact BV.go)
    | (apply Ok.gS)
    | (apply Ok.cn; exact BS.go)
    | apply Ok.block
    | apply Ok.inBlock
    | (apply Ok.ex; exact BR.go)
    | (apply Ok.gD 6 (noneL [0, 1, 2, 3, 4, 5, 6, 7] ++ ((8, some []) :: ([]))) hP mo; exact BK.go)
    | (apply Ok.rD [0, 1, 2, 3, 4, 5, 6, 7, 17, 28, 42, 53] hP hn hx mo; exact BK.go; exact BX.go)
    | (apply goE.e [0, 1, 2, 3, 4, 5, 6, 7, 17, 28, 42, 53] hP hn hx; exact BR.go; exact BV.go)
    | (apply goE.n hP hn hx; exact BR.go; exact BJ.go; exact BU.go)
    | (apply goE.q; exact BR.go; exact BG.go; exact BW.go)
    | (apply goQ.t hP; exact BR.go; exact BR.go; exact BS.go)
    | (apply goQ.f hn hx; exact BR.go; exact BR.go; exact BE.go)
    | (apply goD.z [0, 1, 2, 3, 4, 5, 6, 7, 17, 28, 42, 53]; exact BT.go)
    | (apply goD.n hP hn hx; exact BN.go)
    | (apply goD.q; exact BR.go; exact BG.go; exact BW.go)
    | (apply goQD.t hP; exact BR.go; exact BR.go; exact BS.go)
    | (apply goQD.f hP hn hx; exact BR.go; exact BR.go; exact BE.go; exact BQ.go)
    | (apply goD.x hP hn hx; exact BR.go; exact BG.go; exact BR.go; exact BW.go; exact BS.go; exact BQ.go)
    | (apply goK.k hP hn hx; exact spec_l01In.link _ _ _ _ (by assumption); exact BS.go)
    | (apply goKD.k hP hn hx; exact spec_l01In.link _ _ _ _ (by assumption); exact BS.go; exact BQ.go)
    | (apply goK.k hP hn hx; exact spec_l05Bodies.link _ _ _ _ _ (by assumption); exact BS.go)
    | (apply goKD.k hP hn hx; exact spec_l05Bodies.link _ _ _ _ _ (by assumption); exact BS.go; exact BQ.go)
    | (apply Ok.bk #[.tmp 2] hC.out hP hx hF; exact BR.go; exact BF.go; exact BF.go; exact BF.go; exact BM.go; exact BR.go; exact BR.go; exact BR.go; exact B1.go; exact BR.go)
    | (apply Ok.ag [1, 3, 4, 5] ih0; exact BT.go; exact ⟨_, by omega, _, _, _, _, _, _, by first | rfl | (simp (disch := omega) only [go_sem, ↓reduceIte, eq_self, and_self]; done), by omega, H.out⟩; done)
    | (apply Ok.lq [1, 3, 6] (fun q X => ∃ x3, ∃ x6, ∃ x384000, ∃ x384001, ∃ x384002, X = ⟨[(1, .pl 0 none 0), (3, .bor 1 none 0 1 false), (6, .dat false [.sc (.int .i64 x6)])], [(0, .mem [.sl none 6 (List.flatMap e77 x384000), .sl none 4 (List.flatMap e106 x384001), .sl none 4 (List.flatMap e103 x384002)]), (1, .vir [.sl (some 0) 1 (List.flatMap eI x3)])]⟩ ∧ q ≤ kq0_1 ∧ spec_l05Used.l1 q x3 x6 x384000 x384001 x384002 = some r); exact BT.go; exact ⟨_, _, _, _, _, _, by first | rfl | (simp (disch := omega) only [go_sem, ↓reduceIte, eq_self, and_self]; done), by omega, H.out⟩))
   all_goals intro q1_2 X hJ ih1
   all_goals clear H
   all_goals obtain ⟨x3, x6, x384000, x384001, x384002, rfl, hq, H⟩ := hJ
   all_goals (cases q1_2 with
    | zero => (simp only [spec_l05Used.l1] at H; cases H)
    | succ kq1_2 =>
     simp only [spec_l05Used.l1, List.length_append, List.length_cons, List.length_nil, Nat.zero_add, beq_dec, bne_dec, Bool.or_eq_true, Bool.and_eq_true, Bool.not_eq_true', decide_eq_true_eq, decide_eq_false_iff_not, ite_or', ite_and', ite_not', ge_iff_le, gt_iff_lt] at H
     repeat' first
      | (with_reducible replace H := sBindA H (by assumption))
      | (with_reducible replace H := sBindS H)
      | (with_reducible replace H := sBind H); obtain ⟨t, hA, H⟩ := H
      | (with_reducible replace H := sBool H); obtain ⟨c, H⟩ | ⟨c, H⟩ := H
      | (with_reducible replace H := sEq H); obtain ⟨c, c', H⟩ | ⟨c, c', H⟩ := H
      | (with_reducible replace H := sEqL H); obtain ⟨c, H⟩ | ⟨c, H⟩ := H
      | (with_reducible replace H := sIte H); obtain ⟨c, H⟩ | ⟨c, H⟩ := H
      | (with_reducible replace H := sAnd H); obtain ⟨c, H⟩ | ⟨c, H⟩ := H
      | (with_reducible replace H := sOr H); obtain ⟨c, H⟩ | ⟨c, H⟩ := H
     all_goals first
      | cases H
      | replace H := Hold.mk H
     all_goals repeat (first
      | apply Ok.seq
      | apply Ok.skip
      | (apply Ok.rN [0, 1, 2, 3, 4, 5, 6, 7, 17, 28, 42, 53] hP hn hx; exact BR.go; exact BV.go)
      | (apply Ok.gS)
      | (apply Ok.cn; exact BS.go)
      | apply Ok.block
      | apply Ok.inBlock
      | (apply Ok.ex; exact BR.go)
      | (apply Ok.gD 6 (noneL [0, 1, 2, 3, 4, 5, 6, 7] ++ ((8, some []) :: ([]))) hP mo; exact BK.go)
      | (apply Ok.rD [0, 1, 2, 3, 4, 5, 6, 7, 17, 28, 42, 53] hP hn hx mo; exact BK.go; exact BX.go)
      | (apply goE.e [0, 1, 2, 3, 4, 5, 6, 7, 17, 28, 42, 53] hP hn hx; exact BR.go; exact BV.go)
      | (apply goE.n hP hn hx; exact BR.go; exact BJ.go; exact BU.go)
      | (apply goE.q; exact BR.go; exact BG.go; exact BW.go)
      | (apply goQ.t hP; exact BR.go; exact BR.go; exact BS.go)
      | (apply goQ.f hn hx; exact BR.go; exact BR.go; exact BE.go)
      | (apply goD.z [0, 1, 2, 3, 4, 5, 6, 7, 17, 28, 42, 53]; exact BT.go)
      | (apply goD.n hP hn hx; exact BN.go)
      | (apply goD.q; exact BR.go; exact BG.go; exact BW.go)
      | (apply goQD.t hP; exact BR.go; exact BR.go; exact BS.go)
      | (apply goQD.f hP hn hx; exact BR.go; exact BR.go; exact BE.go; exact BQ.go)
      | (apply goD.x hP hn hx; exact BR.go; exact BG.go; exact BR.go; exact BW.go; exact BS.go; exact BQ.go)
      | (apply goK.k hP hn hx; exact spec_l01In.link _ _ _ _ (by assumption); exact BS.go)
      | (apply goKD.k hP hn hx; exact spec_l01In.link _ _ _ _ (by assumption); exact BS.go; exact BQ.go)
      | (apply goK.k hP hn hx; exact spec_l05Bodies.link _ _ _ _ _ (by assumption); exact BS.go)
      | (apply goKD.k hP hn hx; exact spec_l05Bodies.link _ _ _ _ _ (by assumption); exact BS.go; exact BQ.go)
      | (apply Ok.bk #[.tmp 2] hC.out hP hx hF; exact BR.go; exact BF.go; exact BF.go; exact BF.go; exact BM.go; exact BR.go; exact BR.go; exact BR.go; exact B1.go; exact BR.go)
      | (apply Ok.ag [1, 3, 4, 5] ih0; exact BT.go; exact ⟨_, by omega, _, _, _, _, _, _, by first | rfl | (simp (disch := omega) only [go_sem, ↓reduceIte, eq_self, and_self]; done), by omega, H.out⟩; done)
      | (apply Ok.ag [1, 3, 6] ih1; exact BT.go; exact ⟨_, by omega, _, _, _, _, _, by first | rfl | (simp (disch := omega) only [go_sem, ↓reduceIte, eq_self, and_self]; done), by omega, H.out⟩; done)
      | (apply Ok.lq [1, 3, 6, 7] (fun q X => ∃ x3, ∃ x6, ∃ x7, ∃ x384000, ∃ x384001, ∃ x384002, X = ⟨[(1, .pl 0 none 0), (3, .bor 1 none 0 1 false), (6, .dat false [.sc (.int .i64 x6)]), (7, .dat false [.sc (.int .i64 x7)])], [(0, .mem [.sl none 6 (List.flatMap e77 x384000), .sl none 4 (List.flatMap e106 x384001), .sl none 4 (List.flatMap e103 x384002)]), (1, .vir [.sl (some 0) 1 (List.flatMap eI x3)])]⟩ ∧ q ≤ kq1_2 ∧ spec_l05Used.l2 q x3 x6 x7 x384000 x384001 x384002 = some r); exact BT.go; exact ⟨_, _, _, _, _, _, _, by first | rfl | (simp (disch := omega) only [go_sem, ↓reduceIte, eq_self, and_self]; done), by omega, H.out⟩))
     all_goals intro q2_3 X hJ ih2
     all_goals clear H
     all_goals obtain ⟨x3, x6, x7, x384000, x384001, x384002, rfl, hq, H⟩ := hJ
     all_goals (cases q2_3 with
      | zero => (simp only [spec_l05Used.l2] at H; cases H)
      | succ kq2_3 =>
       simp only [spec_l05Used.l2, List.length_append, List.length_cons, List.length_nil, Nat.zero_add, beq_dec, bne_dec, Bool.or_eq_true, Bool.and_eq_true, Bool.not_eq_true', decide_eq_true_eq, decide_eq_false_iff_not, ite_or', ite_and', ite_not', ge_iff_le, gt_iff_lt] at H
       repeat' first
        | (with_reducible replace H := sBindA H (by assumption))
        | (with_reducible replace H := sBindS H)
        | (with_reducible replace H := sBind H); obtain ⟨t, hA, H⟩ := H
        | (with_reducible replace H := sBool H); obtain ⟨c, H⟩ | ⟨c, H⟩ := H
        | (with_reducible replace H := sEq H); obtain ⟨c, c', H⟩ | ⟨c, c', H⟩ := H
        | (with_reducible replace H := sEqL H); obtain ⟨c, H⟩ | ⟨c, H⟩ := H
        | (with_reducible replace H := sIte H); obtain ⟨c, H⟩ | ⟨c, H⟩ := H
        | (with_reducible replace H := sAnd H); obtain ⟨c, H⟩ | ⟨c, H⟩ := H
        | (with_reducible replace H := sOr H); obtain ⟨c, H⟩ | ⟨c, H⟩ := H
       all_goals first
        | cases H
        | (exfalso; clear H; omega)
        | replace H := Hold.mk H
       all_goals repeat (first
        | apply Ok.seq
        | apply Ok.skip
        | (apply Ok.rN [0, 1, 2, 3, 4, 5, 6, 7, 17, 28, 42, 53] hP hn hx; exact BR.go; exact BV.go)
        | (apply Ok.gS)
        | (apply Ok.cn; exact BS.go)
        | apply Ok.block
        | apply Ok.inBlock
        | (apply Ok.ex; exact BR.go)
        | (apply Ok.gD 6 (noneL [0, 1, 2, 3, 4, 5, 6, 7] ++ ((8, some []) :: ([]))) hP mo; exact BK.go)
        | (apply Ok.rD [0, 1, 2, 3, 4, 5, 6, 7, 17, 28, 42, 53] hP hn hx mo; exact BK.go; exact BX.go)
        | (apply goE.e [0, 1, 2, 3, 4, 5, 6, 7, 17, 28, 42, 53] hP hn hx; exact BR.go; exact BV.go)
        | (apply goE.n hP hn hx; exact BR.go; exact BJ.go; exact BU.go)
        | (apply goE.q; exact BR.go; exact BG.go; exact BW.go)
        | (apply goQ.t hP; exact BR.go; exact BR.go; exact BS.go)
        | (apply goQ.f hn hx; exact BR.go; exact BR.go; exact BE.go)
        | (apply goD.z [0, 1, 2, 3, 4, 5, 6, 7, 17, 28, 42, 53]; exact BT.go)
        | (apply goD.n hP hn hx; exact BN.go)
        | (apply goD.q; exact BR.go; exact BG.go; exact BW.go)
        | (apply goQD.t hP; exact BR.go; exact BR.go; exact BS.go)
        | (apply goQD.f hP hn hx; exact BR.go; exact BR.go; exact BE.go; exact BQ.go)
        | (apply goD.x hP hn hx; exact BR.go; exact BG.go; exact BR.go; exact BW.go; exact BS.go; exact BQ.go)
        | (apply goK.k hP hn hx; exact spec_l01In.link _ _ _ _ (by assumption); exact BS.go)
        | (apply goKD.k hP hn hx; exact spec_l01In.link _ _ _ _ (by assumption); exact BS.go; exact BQ.go)
        | (apply goK.k hP hn hx; exact spec_l05Bodies.link _ _ _ _ _ (by assumption); exact BS.go)
        | (apply goKD.k hP hn hx; exact spec_l05Bodies.link _ _ _ _ _ (by assumption); exact BS.go; exact BQ.go)
        | (apply Ok.bk #[.tmp 2] hC.out hP hx hF; exact BR.go; exact BF.go; exact BF.go; exact BF.go; exact BM.go; exact BR.go; exact BR.go; exact BR.go; exact B1.go; exact BR.go)
        | (apply Ok.ag [1, 3, 4, 5] ih0; exact BT.go; exact ⟨_, by omega, _, _, _, _, _, _, by first | rfl | (simp (disch := omega) only [go_sem, ↓reduceIte, eq_self, and_self]; done), by omega, H.out⟩; done)
        | (apply Ok.ag [1, 3, 6] ih1; exact BT.go; exact ⟨_, by omega, _, _, _, _, _, by first | rfl | (simp (disch := omega) only [go_sem, ↓reduceIte, eq_self, and_self]; done), by omega, H.out⟩; done)
        | (apply Ok.ag [1, 3, 6, 7] ih2; exact BT.go; exact ⟨_, by omega, _, _, _, _, _, _, by first | rfl | (simp (disch := omega) only [go_sem, ↓reduceIte, eq_self, and_self]; done), by omega, H.out⟩; done)))))
end Go.Proofs.Ytmbkcbgbienjoaa.PFnExactProgramOk
