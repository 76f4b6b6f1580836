/- Functions' walks: each computes what its plain form says. No condition. -/
import Derived.Test.YtjjhknklnclokaaGreatLkFnExactStepThreadh
import Derived.Test.YtjjhknklnclokaaGreatLkFnExactStepThreada
import Derived.Test.YtjjhknklnclokaaGreatLkFnExactStepThreadb
open Go Go.Proofs Go.Proofs.YtjjhknklnclokaaGreat.Abs
namespace Go.Proofs.YtjjhknklnclokaaGreat.PFnExactStepThread
open Go.RowKit Go.Proofs.YtjjhknklnclokaaGreatW.PrintWords Go.Proofs.YtjjhknklnclokaaGreatW.PrintLast Go.Proofs.YtjjhknklnclokaaGreatW.PrintMore
set_option linter.unusedVariables false
set_option linter.unusedSimpArgs false
set_option maxRecDepth 100000
attribute [local irreducible] evK evQ evM evF evW evH goE goK goKD goQ goQD goD Ok ACalls
set_option maxHeartbeats 8000000 in
theorem spec_Denied.link {a0 : Int} {r : Int} (H : spec_Denied.f a0 = some r) : ACalls Tryz.prog 173 [.dat false [.sc (.int .i64 a0)]] [(false, [.sc (.int .i64 r)])] [.dat false [.sc (.int .i64 a0)]] := by
 refine ACalls.en Tryz.func173 Tryz.ntmps173 .go .go .go .go ?_
 intro C F hC hP hF hn (hx : C.fx = [])
 have kp : KL [0, 2] := ⟨⟩
 have kr : KR #[.tmp 2] := ⟨⟩
 have c0 := Hold.mk @spec_l03Bit.link
 simp only [spec_Denied.f] at H
 apply BZ.out
 exact BZ.go
set_option maxHeartbeats 8000000 in
theorem spec_Calc.link {k : Nat} {a0 : Int} {a1 : Int} {a2 : Int} {r : Int × Int} (H : spec_Calc.f k a0 a1 a2 = some r) : ACalls Tryz.prog 175 [.dat false [.sc (.int .i64 a0)], .dat false [.sc (.int .i64 a1)], .dat false [.sc (.int .i64 a2)]] [(false, [.sc (.int .i64 r.1)]), (false, [.sc (.int .i64 r.2)])] [.dat false [.sc (.int .i64 a0)], .dat false [.sc (.int .i64 a1)], .dat false [.sc (.int .i64 a2)]] := by
 refine ACalls.en Tryz.func175 Tryz.ntmps175 .go .go .go .go ?_
 intro C F hC hP hF hn (hx : C.fx = [])
 have kp : KL [0, 1, 2, 6, 7, 8, 21, 22, 23, 28, 33, 38, 42, 47, 51, 57, 63, 72, 83] := ⟨⟩
 have kr : KR #[.tmp 6, .tmp 7] := ⟨⟩
 have c0 := Hold.mk @spec_l01In.link
 have c1 := Hold.mk @spec_l03Bit.link
 have c2 := Hold.mk @spec_ValOk.link
 simp only [spec_Calc.f] at H
 replace H := Hold.mk H
 have m0 : LM 2 1 [0, 1, 2, 21] (fun X => ∃ x0, ∃ x1, ∃ x2, ∃ x21, ∃ q, X = ⟨[(0, .dat false [.sc (.int .i64 x0)]), (1, .dat false [.sc (.int .i64 x1)]), (2, .dat false [.sc (.int .i64 x2)]), (21, .dat false [.sc (.bool x21)])], []⟩ ∧ q ≤ k ∧ spec_Calc.j0 q x0 x1 x2 x21 = some r) := ⟨⟩
 apply late
 · intro pa0
   apply late
   · intro pb0
     apply BZc.out
     exact BZc.go
   · clear H
     intro X hJ
     obtain ⟨x0, x1, x2, x21, q1, rfl, hq, H⟩ := hJ
     cases q1 with
     | zero => (simp only [spec_Calc.j0] at H; cases H)
     | succ kq1 =>
      simp only [spec_Calc.j0] at H
      replace H := Hold.mk H
      obtain ⟨H, H0⟩ | ⟨H, H0⟩ := sIteU H.out
      · (try simp only [List.length_append, List.length_cons, List.length_nil, Nat.zero_add, beq_dec, bne_dec, Bool.or_eq_true, Bool.and_eq_true, Bool.not_eq_true', decide_eq_true_eq, decide_eq_false_iff_not, ite_or', ite_and', ite_not', ge_iff_le, gt_iff_lt] at H)
        repeat' first
         | (with_reducible replace H := sBindA H (by assumption))
         | (with_reducible replace H := sBindS H)
         | (with_reducible replace H := sBind H); obtain ⟨t, hA, H⟩ := H
         | (with_reducible replace H := sBool H); obtain ⟨c, H⟩ | ⟨c, H⟩ := H
         | (with_reducible replace H := sEq H); obtain ⟨c, c', H⟩ | ⟨c, c', H⟩ := H
         | (with_reducible replace H := sEqL H); obtain ⟨c, H⟩ | ⟨c, H⟩ := H
         | (with_reducible replace H := sIte H); obtain ⟨c, H⟩ | ⟨c, H⟩ := H
         | (with_reducible replace H := sAnd H); obtain ⟨c, H⟩ | ⟨c, H⟩ := H
         | (with_reducible replace H := sOr H); obtain ⟨c, H⟩ | ⟨c, H⟩ := H
        all_goals cases H
        all_goals (replace H0 := Hold.mk H0; have H := H0; clear H0)
        all_goals (
         replace H := H.out
         apply BZ.out
         exact BZ.go)
      · (try simp only [List.length_append, List.length_cons, List.length_nil, Nat.zero_add, beq_dec, bne_dec, Bool.or_eq_true, Bool.and_eq_true, Bool.not_eq_true', decide_eq_true_eq, decide_eq_false_iff_not, ite_or', ite_and', ite_not', ge_iff_le, gt_iff_lt] at H)
        repeat' first
         | (with_reducible replace H := sBindA H (by assumption))
         | (with_reducible replace H := sBindS H)
         | (with_reducible replace H := sBind H); obtain ⟨t, hA, H⟩ := H
         | (with_reducible replace H := sBool H); obtain ⟨c, H⟩ | ⟨c, H⟩ := H
         | (with_reducible replace H := sEq H); obtain ⟨c, c', H⟩ | ⟨c, c', H⟩ := H
         | (with_reducible replace H := sEqL H); obtain ⟨c, H⟩ | ⟨c, H⟩ := H
         | (with_reducible replace H := sIte H); obtain ⟨c, H⟩ | ⟨c, H⟩ := H
         | (with_reducible replace H := sAnd H); obtain ⟨c, H⟩ | ⟨c, H⟩ := H
         | (with_reducible replace H := sOr H); obtain ⟨c, H⟩ | ⟨c, H⟩ := H
        all_goals cases H
        all_goals (replace H0 := Hold.mk H0; have H := H0; clear H0)
        all_goals (
         obtain ⟨H, H0⟩ | ⟨H, H0⟩ := sIteU H.out
         · (try simp only [List.length_append, List.length_cons, List.length_nil, Nat.zero_add, beq_dec, bne_dec, Bool.or_eq_true, Bool.and_eq_true, Bool.not_eq_true', decide_eq_true_eq, decide_eq_false_iff_not, ite_or', ite_and', ite_not', ge_iff_le, gt_iff_lt] at H)
           repeat' first
            | (with_reducible replace H := sBindA H (by assumption))
            | (with_reducible replace H := sBindS H)
            | (with_reducible replace H := sBind H); obtain ⟨t, hA, H⟩ := H
            | (with_reducible replace H := sBool H); obtain ⟨c, H⟩ | ⟨c, H⟩ := H
            | (with_reducible replace H := sEq H); obtain ⟨c, c', H⟩ | ⟨c, c', H⟩ := H
            | (with_reducible replace H := sEqL H); obtain ⟨c, H⟩ | ⟨c, H⟩ := H
            | (with_reducible replace H := sIte H); obtain ⟨c, H⟩ | ⟨c, H⟩ := H
            | (with_reducible replace H := sAnd H); obtain ⟨c, H⟩ | ⟨c, H⟩ := H
            | (with_reducible replace H := sOr H); obtain ⟨c, H⟩ | ⟨c, H⟩ := H
           all_goals cases H
           all_goals (replace H0 := Hold.mk H0; have H := H0; clear H0)
           all_goals (
            replace H := H.out
            apply BZ.out
            exact BZ.go)
         · (try simp only [List.length_append, List.length_cons, List.length_nil, Nat.zero_add, beq_dec, bne_dec, Bool.or_eq_true, Bool.and_eq_true, Bool.not_eq_true', decide_eq_true_eq, decide_eq_false_iff_not, ite_or', ite_and', ite_not', ge_iff_le, gt_iff_lt] at H)
           repeat' first
            | (with_reducible replace H := sBindA H (by assumption))
            | (with_reducible replace H := sBindS H)
            | (with_reducible replace H := sBind H); obtain ⟨t, hA, H⟩ := H
            | (with_reducible replace H := sBool H); obtain ⟨c, H⟩ | ⟨c, H⟩ := H
            | (with_reducible replace H := sEq H); obtain ⟨c, c', H⟩ | ⟨c, c', H⟩ := H
            | (with_reducible replace H := sEqL H); obtain ⟨c, H⟩ | ⟨c, H⟩ := H
            | (with_reducible replace H := sIte H); obtain ⟨c, H⟩ | ⟨c, H⟩ := H
            | (with_reducible replace H := sAnd H); obtain ⟨c, H⟩ | ⟨c, H⟩ := H
            | (with_reducible replace H := sOr H); obtain ⟨c, H⟩ | ⟨c, H⟩ := H
           all_goals cases H
           all_goals (replace H0 := Hold.mk H0; have H := H0; clear H0)
           all_goals (
            obtain ⟨H, H0⟩ | ⟨H, H0⟩ := sIteU H.out
            · (try simp only [List.length_append, List.length_cons, List.length_nil, Nat.zero_add, beq_dec, bne_dec, Bool.or_eq_true, Bool.and_eq_true, Bool.not_eq_true', decide_eq_true_eq, decide_eq_false_iff_not, ite_or', ite_and', ite_not', ge_iff_le, gt_iff_lt] at H)
              repeat' first
               | (with_reducible replace H := sBindA H (by assumption))
               | (with_reducible replace H := sBindS H)
               | (with_reducible replace H := sBind H); obtain ⟨t, hA, H⟩ := H
               | (with_reducible replace H := sBool H); obtain ⟨c, H⟩ | ⟨c, H⟩ := H
               | (with_reducible replace H := sEq H); obtain ⟨c, c', H⟩ | ⟨c, c', H⟩ := H
               | (with_reducible replace H := sEqL H); obtain ⟨c, H⟩ | ⟨c, H⟩ := H
               | (with_reducible replace H := sIte H); obtain ⟨c, H⟩ | ⟨c, H⟩ := H
               | (with_reducible replace H := sAnd H); obtain ⟨c, H⟩ | ⟨c, H⟩ := H
               | (with_reducible replace H := sOr H); obtain ⟨c, H⟩ | ⟨c, H⟩ := H
              all_goals cases H
              all_goals (replace H0 := Hold.mk H0; have H := H0; clear H0)
              all_goals (
               replace H := H.out
               apply BZ.out
               exact BZ.go)
            · (try simp only [List.length_append, List.length_cons, List.length_nil, Nat.zero_add, beq_dec, bne_dec, Bool.or_eq_true, Bool.and_eq_true, Bool.not_eq_true', decide_eq_true_eq, decide_eq_false_iff_not, ite_or', ite_and', ite_not', ge_iff_le, gt_iff_lt] at H)
              repeat' first
               | (with_reducible replace H := sBindA H (by assumption))
               | (with_reducible replace H := sBindS H)
               | (with_reducible replace H := sBind H); obtain ⟨t, hA, H⟩ := H
               | (with_reducible replace H := sBool H); obtain ⟨c, H⟩ | ⟨c, H⟩ := H
               | (with_reducible replace H := sEq H); obtain ⟨c, c', H⟩ | ⟨c, c', H⟩ := H
               | (with_reducible replace H := sEqL H); obtain ⟨c, H⟩ | ⟨c, H⟩ := H
               | (with_reducible replace H := sIte H); obtain ⟨c, H⟩ | ⟨c, H⟩ := H
               | (with_reducible replace H := sAnd H); obtain ⟨c, H⟩ | ⟨c, H⟩ := H
               | (with_reducible replace H := sOr H); obtain ⟨c, H⟩ | ⟨c, H⟩ := H
              all_goals cases H
              all_goals (replace H0 := Hold.mk H0; have H := H0; clear H0)
              all_goals (
               obtain ⟨H, H0⟩ | ⟨H, H0⟩ := sIteU H.out
               · (try simp only [List.length_append, List.length_cons, List.length_nil, Nat.zero_add, beq_dec, bne_dec, Bool.or_eq_true, Bool.and_eq_true, Bool.not_eq_true', decide_eq_true_eq, decide_eq_false_iff_not, ite_or', ite_and', ite_not', ge_iff_le, gt_iff_lt] at H)
                 repeat' first
                  | (with_reducible replace H := sBindA H (by assumption))
                  | (with_reducible replace H := sBindS H)
                  | (with_reducible replace H := sBind H); obtain ⟨t, hA, H⟩ := H
                  | (with_reducible replace H := sBool H); obtain ⟨c, H⟩ | ⟨c, H⟩ := H
                  | (with_reducible replace H := sEq H); obtain ⟨c, c', H⟩ | ⟨c, c', H⟩ := H
                  | (with_reducible replace H := sEqL H); obtain ⟨c, H⟩ | ⟨c, H⟩ := H
                  | (with_reducible replace H := sIte H); obtain ⟨c, H⟩ | ⟨c, H⟩ := H
                  | (with_reducible replace H := sAnd H); obtain ⟨c, H⟩ | ⟨c, H⟩ := H
                  | (with_reducible replace H := sOr H); obtain ⟨c, H⟩ | ⟨c, H⟩ := H
                 all_goals cases H
                 all_goals (replace H0 := Hold.mk H0; have H := H0; clear H0)
                 all_goals (
                  replace H := H.out
                  apply BZ.out
                  exact BZ.go)
               · (try simp only [List.length_append, List.length_cons, List.length_nil, Nat.zero_add, beq_dec, bne_dec, Bool.or_eq_true, Bool.and_eq_true, Bool.not_eq_true', decide_eq_true_eq, decide_eq_false_iff_not, ite_or', ite_and', ite_not', ge_iff_le, gt_iff_lt] at H)
                 repeat' first
                  | (with_reducible replace H := sBindA H (by assumption))
                  | (with_reducible replace H := sBindS H)
                  | (with_reducible replace H := sBind H); obtain ⟨t, hA, H⟩ := H
                  | (with_reducible replace H := sBool H); obtain ⟨c, H⟩ | ⟨c, H⟩ := H
                  | (with_reducible replace H := sEq H); obtain ⟨c, c', H⟩ | ⟨c, c', H⟩ := H
                  | (with_reducible replace H := sEqL H); obtain ⟨c, H⟩ | ⟨c, H⟩ := H
                  | (with_reducible replace H := sIte H); obtain ⟨c, H⟩ | ⟨c, H⟩ := H
                  | (with_reducible replace H := sAnd H); obtain ⟨c, H⟩ | ⟨c, H⟩ := H
                  | (with_reducible replace H := sOr H); obtain ⟨c, H⟩ | ⟨c, H⟩ := H
                 all_goals cases H
                 all_goals (replace H0 := Hold.mk H0; have H := H0; clear H0)
                 all_goals (
                  have m0 : LM 1 38 [0, 1, 2, 8, 22, 38] (fun X => ∃ x0, ∃ x1, ∃ x2, ∃ x8, ∃ x22, ∃ x38, ∃ q, X = ⟨[(0, .dat false [.sc (.int .i64 x0)]), (1, .dat false [.sc (.int .i64 x1)]), (2, .dat false [.sc (.int .i64 x2)]), (8, .dat false [.sc (.int .i64 x8)]), (22, .dat false [.sc (.int .i64 x22)]), (38, .dat false [.sc (.bool x38)])], []⟩ ∧ q ≤ kq1 ∧ spec_Calc.j1 q x0 x1 x2 x8 x22 x38 = some r) := ⟨⟩
                  apply late
                  · intro pa0
                    apply late
                    · intro pb0
                      apply BZc.out
                      exact BZc.go
                    · clear H
                      intro X hJ
                      obtain ⟨x0, x1, x2, x8, x22, x38, q2, rfl, hq, H⟩ := hJ
                      cases q2 with
                      | zero => (simp only [spec_Calc.j1] at H; cases H)
                      | succ kq2 =>
                       simp only [spec_Calc.j1] at H
                       apply BZ.out
                       exact BZ.go
                  · intro hj0
                    replace H := H.out
                    apply BZ.out
                    exact BZ.go))))
 · intro hj0
   replace H := H.out
   apply BZ.out
   exact BZ.go
set_option maxHeartbeats 8000000 in
theorem spec_l10Value.link {k : Nat} {l0_0 : List (S71)} {l0_1 : List (S111)} {l0_2 : List (S115)} {a1 : Int} {l2_0 : List ByteArray} {l2_1 : List Int} {r : Int × Int} (H : spec_l10Value.f k l0_0 l0_1 l0_2 a1 l2_0 l2_1 = some r) : ACalls Tryz.prog 169 [.dat true [.sl none 6 (List.flatMap e71 l0_0), .sl none 4 (List.flatMap e111 l0_1), .sl none 4 (List.flatMap e115 l0_2)], .dat false [.sc (.int .i64 a1)], .dat true [.sl none 1 (List.flatMap eS l2_0), .sl none 1 (List.flatMap eI l2_1)]] [(false, [.sc (.int .i64 r.1)]), (false, [.sc (.int .i64 r.2)])] [.dat true [.sl none 6 (List.flatMap e71 l0_0), .sl none 4 (List.flatMap e111 l0_1), .sl none 4 (List.flatMap e115 l0_2)], .dat false [.sc (.int .i64 a1)], .dat true [.sl none 1 (List.flatMap eS l2_0), .sl none 1 (List.flatMap eI l2_1)]] := by
 induction k using Nat.strongRecOn generalizing l0_0 l0_1 l0_2 a1 l2_0 l2_1 r with
 | _ k ih =>
 have e0 : Hold (∀ {m : Nat} {l0_0 : List (S71)} {l0_1 : List (S111)} {l0_2 : List (S115)} {a1 : Int} {l2_0 : List ByteArray} {l2_1 : List Int} {r : Int × Int}, spec_l10Value.f m l0_0 l0_1 l0_2 a1 l2_0 l2_1 = some r → m < k → ACalls Tryz.prog 169 [.dat true [.sl none 6 (List.flatMap e71 l0_0), .sl none 4 (List.flatMap e111 l0_1), .sl none 4 (List.flatMap e115 l0_2)], .dat false [.sc (.int .i64 a1)], .dat true [.sl none 1 (List.flatMap eS l2_0), .sl none 1 (List.flatMap eI l2_1)]] [(false, [.sc (.int .i64 r.1)]), (false, [.sc (.int .i64 r.2)])] [.dat true [.sl none 6 (List.flatMap e71 l0_0), .sl none 4 (List.flatMap e111 l0_1), .sl none 4 (List.flatMap e115 l0_2)], .dat false [.sc (.int .i64 a1)], .dat true [.sl none 1 (List.flatMap eS l2_0), .sl none 1 (List.flatMap eI l2_1)]]) := ⟨fun H h => ih _ h H⟩
 refine ACalls.en Tryz.func169 Tryz.ntmps169 .go .go .go .go ?_
 intro C F hC hP hF hn (hx : C.fx = [])
 have kp : KL [0, 1, 2, 3, 5, 6, 7, 8, 9, 10, 11, 12, 20, 25, 41, 44, 45, 49, 66] := ⟨⟩
 have kr : KR #[.tmp 6, .tmp 7] := ⟨⟩
 have kd0 : KD 6 (noneL [0, 1, 2, 3, 4, 5] ++ ((6, some []) :: (noneL [7, 8, 9, 10, 11] ++ []))) := ⟨⟩
 have kd1 : KD 14 (noneL [0, 1, 2, 3, 4, 5] ++ ((6, some []) :: (noneL [7, 8, 9, 10, 11] ++ []))) := ⟨⟩
 have c0 := Hold.mk @spec_GetIn.link
 have c1 := Hold.mk @spec_Denied.link
 have c2 := Hold.mk @spec_Negated.link
 have c3 := Hold.mk @spec_Calc.link
 cases k with
 | zero => (simp only [spec_l10Value.f] at H; cases H)
 | succ k =>
   simp only [spec_l10Value.f] at H
   apply BZn.out
   exact BZn.go
set_option maxHeartbeats 8000000 in
theorem spec_ValueOf.link {k : Nat} {l0_0 : List (S71)} {l0_1 : List (S111)} {l0_2 : List (S115)} {a1 : Int} {l2_0 : List ByteArray} {l2_1 : List Int} {r : Int × Int} (H : spec_ValueOf.f k l0_0 l0_1 l0_2 a1 l2_0 l2_1 = some r) : ACalls Tryz.prog 157 [.dat true [.sl none 6 (List.flatMap e71 l0_0), .sl none 4 (List.flatMap e111 l0_1), .sl none 4 (List.flatMap e115 l0_2)], .dat false [.sc (.int .i64 a1)], .dat true [.sl none 1 (List.flatMap eS l2_0), .sl none 1 (List.flatMap eI l2_1)]] [(false, [.sc (.int .i64 r.1)]), (false, [.sc (.int .i64 r.2)])] [.dat true [.sl none 6 (List.flatMap e71 l0_0), .sl none 4 (List.flatMap e111 l0_1), .sl none 4 (List.flatMap e115 l0_2)], .dat false [.sc (.int .i64 a1)], .dat true [.sl none 1 (List.flatMap eS l2_0), .sl none 1 (List.flatMap eI l2_1)]] := by
 refine ACalls.en Tryz.func157 Tryz.ntmps157 .go .go .go .go ?_
 intro C F hC hP hF hn (hx : C.fx = [])
 have kp : KL [0, 1, 2, 3, 5, 6, 7, 21] := ⟨⟩
 have kr : KR #[.tmp 6, .tmp 7] := ⟨⟩
 have c0 := Hold.mk @spec_l05Value.link
 have c1 := Hold.mk @spec_DeepOf.link
 have c2 := Hold.mk @spec_l10Value.link
 simp only [spec_ValueOf.f] at H
 apply BZn.out
 exact BZn.go
attribute [local go_sem] eI_setI noMutL_append noMutL_drop Bool.true_and Bool.and_true in
set_option maxHeartbeats 8000000 in
theorem spec_PutIn.link {k : Nat} {l0_0 : List ByteArray} {l0_1 : List Int} {a1 : ByteArray} {a2 : Int} {r : List ByteArray × List Int} (H : spec_PutIn.f k l0_0 l0_1 a1 a2 = some r) : ACalls Tryz.prog 158 [.dat true [.sl none 1 (List.flatMap eS l0_0), .sl none 1 (List.flatMap eI l0_1)], .dat false [.sc (.string a1)], .dat false [.sc (.int .i64 a2)]] [(true, [.sl (some 0) 1 (List.flatMap eS r.1), .sl (some 0) 1 (List.flatMap eI r.2)])] [.dat true [.sl none 1 (List.flatMap eS l0_0), .sl none 1 (List.flatMap eI l0_1)], .dat false [.sc (.string a1)], .dat false [.sc (.int .i64 a2)]] := by
 refine ACalls.en Tryz.func158 Tryz.ntmps158 .go .go .go .go ?_
 intro C F hC hP hF hn (hx : C.fx = [])
 have kp : KL [0, 1, 2, 3, 6, 7, 8, 22, 35] := ⟨⟩
 have kr : KR #[.cell 6 45] := ⟨⟩
 have c0 := Hold.mk @spec_l10Copy.link
 have c1 := Hold.mk @spec_ValOk.link
 simp only [spec_PutIn.f] at H
 have w0 : LJ [1, 2, 3, 6, 7, 8] (fun q X => ∃ x1, ∃ x2, ∃ x8, ∃ x449000, ∃ x449001, ∃ x457000, ∃ x457001, X = ⟨[(1, .dat false [.sc (.string x1)]), (2, .dat false [.sc (.int .i64 x2)]), (3, .pl 0 none 0), (6, .pl 1 none 0), (7, .pl 2 none 0), (8, .dat false [.sc (.int .i64 x8)])], [(0, .mem [.sl none 1 (List.flatMap eS x449000), .sl none 1 (List.flatMap eI x449001)]), (1, .mem [.sl (some 0) 1 [], .sl (some 0) 1 []]), (2, .mem [.sl (some 0) 1 (List.flatMap eS x457000), .sl (some 0) 1 (List.flatMap eI x457001)])]⟩ ∧ q ≤ k ∧ spec_PutIn.l0 q x1 x2 x8 x449000 x449001 x457000 x457001 = some r) := ⟨⟩
 apply late
 · intro lp0
   apply BZ.out
   exact BZ.go
 · intro q1 X hJ ih0
   clear H
   obtain ⟨x1, x2, x8, x449000, x449001, x457000, x457001, rfl, hq, H⟩ := hJ
   cases q1 with
   | zero => (simp only [spec_PutIn.l0] at H; cases H)
   | succ kq1 =>
    simp only [spec_PutIn.l0] at H
    replace H := Hold.mk H
    have m0 : LM 2 3 [1, 2, 3, 6, 7, 8, 22] (fun X => ∃ x1, ∃ x2, ∃ x8, ∃ x22, ∃ x449000, ∃ x449001, ∃ x457000, ∃ x457001, ∃ q, X = ⟨[(1, .dat false [.sc (.string x1)]), (2, .dat false [.sc (.int .i64 x2)]), (3, .pl 0 none 0), (6, .pl 1 none 0), (7, .pl 2 none 0), (8, .dat false [.sc (.int .i64 x8)]), (22, .dat false [.sc (.bool x22)])], [(0, .mem [.sl none 1 (List.flatMap eS x449000), .sl none 1 (List.flatMap eI x449001)]), (1, .mem [.sl (some 0) 1 [], .sl (some 0) 1 []]), (2, .mem [.sl (some 0) 1 (List.flatMap eS x457000), .sl (some 0) 1 (List.flatMap eI x457001)])]⟩ ∧ q ≤ kq1 ∧ spec_PutIn.j1 q x1 x2 x8 x22 x449000 x449001 x457000 x457001 = some r) := ⟨⟩
    apply late
    · intro pa0
      apply late
      · intro pb0
        apply BZc.out
        exact BZc.go
      · clear H
        intro X hJ
        obtain ⟨x1, x2, x8, x22, x449000, x449001, x457000, x457001, q2, rfl, hq, H⟩ := hJ
        cases q2 with
        | zero => (simp only [spec_PutIn.j1] at H; cases H)
        | succ kq2 =>
         simp only [spec_PutIn.j1] at H
         apply BZn.out
         exact BZn.go
    · intro hj0
      replace H := H.out
      apply BZ.out
      exact BZ.go
set_option maxHeartbeats 8000000 in
theorem laws_toEnv.link {k : Nat} {l0_0 : List ByteArray} {l0_1 : List Int} {r : List ByteArray × List Int} (H : laws_toEnv.f k l0_0 l0_1 = some r) : ACalls Tryz.prog 50 [.dat true [.sl none 1 (List.flatMap eS l0_0), .sl none 1 (List.flatMap eI l0_1)]] [(true, [.sl (some 0) 1 (List.flatMap eS r.1), .sl (some 0) 1 (List.flatMap eI r.2)])] [.dat true [.sl none 1 (List.flatMap eS l0_0), .sl none 1 (List.flatMap eI l0_1)]] := by
 refine ACalls.en Tryz.func50 Tryz.ntmps50 .go .go .go .go ?_
 intro C F hC hP hF hn (hx : C.fx = [])
 have kp : KL [0, 1, 2, 3] := ⟨⟩
 have kr : KR #[.cell 2 45] := ⟨⟩
 have c0 := Hold.mk @laws_toIntS.link
 have c1 := Hold.mk @laws_toStringS.link
 simp only [laws_toEnv.f] at H
 apply BZ.out
 exact BZ.go
set_option maxHeartbeats 8000000 in
theorem laws_toThread.link {k : Nat} {l0_0 : List Int} {l0_1 : List ByteArray} {l0_2 : List Int} {a0_3 : Int} {r : List Int × List ByteArray × List Int × Int} (H : laws_toThread.f k l0_0 l0_1 l0_2 a0_3 = some r) : ACalls Tryz.prog 16 [.dat true [.sl none 1 (List.flatMap eI l0_0), .sl none 1 (List.flatMap eS l0_1), .sl none 1 (List.flatMap eI l0_2), .sc (.int .i64 a0_3)]] [(true, [.sl (some 0) 1 (List.flatMap eI r.1), .sl (some 0) 1 (List.flatMap eS r.2.1), .sl (some 0) 1 (List.flatMap eI r.2.2.1), .sc (.int .i64 r.2.2.2)])] [.dat true [.sl none 1 (List.flatMap eI l0_0), .sl none 1 (List.flatMap eS l0_1), .sl none 1 (List.flatMap eI l0_2), .sc (.int .i64 a0_3)]] := by
 refine ACalls.en Tryz.func16 Tryz.ntmps16 .go .go .go .go ?_
 intro C F hC hP hF hn (hx : C.fx = [])
 have kp : KL [0, 1, 2, 3] := ⟨⟩
 have kr : KR #[.cell 2 47] := ⟨⟩
 have c0 := Hold.mk @laws_toIntS.link
 have c1 := Hold.mk @laws_toEnv.link
 simp only [laws_toThread.f] at H
 apply BZ.out
 exact BZ.go
set_option maxHeartbeats 8000000 in
theorem impl_copyEnv.link {l0_0 : List ByteArray} {l0_1 : List Int} {r : List ByteArray × List Int} (H : impl_copyEnv.f l0_0 l0_1 = some r) : ACalls Tryz.prog 116 [.dat true [.sl none 1 (List.flatMap eS l0_0), .sl none 1 (List.flatMap eI l0_1)]] [(true, [.sl (some 0) 1 (List.flatMap eS r.1), .sl (some 0) 1 (List.flatMap eI r.2)])] [.dat true [.sl none 1 (List.flatMap eS l0_0), .sl none 1 (List.flatMap eI l0_1)]] := by
 refine ACalls.en Tryz.func116 Tryz.ntmps116 .go .go .go .go ?_
 intro C F hC hP hF hn (hx : C.fx = [])
 have kp : KL [0, 1, 2] := ⟨⟩
 have kr : KR #[.cell 2 45] := ⟨⟩
 have kd0 : KD 1 (noneL [0, 1, 3, 4] ++ ((2, some [4, 3]) :: ((5, some []) :: ((6, some []) :: ((7, some []) :: ([])))))) := ⟨⟩
 simp only [impl_copyEnv.f] at H
 apply BZna.out
 exact BZna.go
attribute [local go_sem] inLine Option.map_some contig List.take_succ_cons List.take_zero List.drop_succ_cons List.drop_zero List.drop_nil List.take_nil List.length_cons List.length_nil List.append_nil List.cons_append List.nil_append Nat.zero_add Nat.reduceAdd Nat.reduceEqDiff Nat.reduceLeDiff Nat.le_refl in
attribute [-go_sem] eI_rep List.length_replicate in
attribute [local go_sem] eI_per in
set_option maxHeartbeats 8000000 in
theorem impl_copyThread.link {l0_0 : List Int} {l0_1 : List ByteArray} {l0_2 : List Int} {a0_3 : Int} {r : List Int × List ByteArray × List Int × Int} (H : impl_copyThread.f l0_0 l0_1 l0_2 a0_3 = some r) : ACalls Tryz.prog 51 [.dat true [.sl none 1 (List.flatMap eI l0_0), .sl none 1 (List.flatMap eS l0_1), .sl none 1 (List.flatMap eI l0_2), .sc (.int .i64 a0_3)]] [(true, [.sl (some 0) 1 (List.flatMap eI r.1), .sl (some 0) 1 (List.flatMap eS r.2.1), .sl (some 0) 1 (List.flatMap eI r.2.2.1), .sc (.int .i64 r.2.2.2)])] [.dat true [.sl none 1 (List.flatMap eI l0_0), .sl none 1 (List.flatMap eS l0_1), .sl none 1 (List.flatMap eI l0_2), .sc (.int .i64 a0_3)]] := by
 refine ACalls.en Tryz.func51 Tryz.ntmps51 .go .go .go .go ?_
 intro C F hC hP hF hn (hx : C.fx = [])
 have kp : KL [0, 1, 2] := ⟨⟩
 have kr : KR #[.cell 2 47] := ⟨⟩
 have kd0 : KD 1 (noneL [0, 1, 3, 4, 6, 7] ++ ((2, some [7, 6, 4, 3]) :: ((5, some [7, 6]) :: ((8, some []) :: ((9, some []) :: ([])))))) := ⟨⟩
 have c0 := Hold.mk @impl_copyEnv.link
 simp only [impl_copyThread.f] at H
 apply BZa.out
 exact BZa.go
set_option maxHeartbeats 8000000 in
theorem impl_within.link {a0 : Int} {a1 : Int} {a2 : Int} {r : Bool} (H : impl_within.f a0 a1 a2 = some r) : ACalls Tryz.prog 119 [.dat false [.sc (.int .i64 a0)], .dat false [.sc (.int .i64 a1)], .dat false [.sc (.int .i64 a2)]] [(false, [.sc (.bool r)])] [.dat false [.sc (.int .i64 a0)], .dat false [.sc (.int .i64 a1)], .dat false [.sc (.int .i64 a2)]] := by
 refine ACalls.en Tryz.func119 Tryz.ntmps119 .go .go .go .go ?_
 intro C F hC hP hF hn (hx : C.fx = [])
 have kp : KL [0, 1, 2, 6] := ⟨⟩
 have kr : KR #[.tmp 6] := ⟨⟩
 simp only [impl_within.f] at H
 apply BZ.out
 exact BZ.go
set_option maxHeartbeats 8000000 in
theorem impl_isNode.link {l0_0 : List (S71)} {l0_1 : List (S111)} {l0_2 : List (S115)} {a1 : Int} {r : Bool} (H : impl_isNode.f l0_0 l0_1 l0_2 a1 = some r) : ACalls Tryz.prog 118 [.dat true [.sl none 6 (List.flatMap e71 l0_0), .sl none 4 (List.flatMap e111 l0_1), .sl none 4 (List.flatMap e115 l0_2)], .dat false [.sc (.int .i64 a1)]] [(false, [.sc (.bool r)])] [.dat true [.sl none 6 (List.flatMap e71 l0_0), .sl none 4 (List.flatMap e111 l0_1), .sl none 4 (List.flatMap e115 l0_2)], .dat false [.sc (.int .i64 a1)]] := by
 refine ACalls.en Tryz.func118 Tryz.ntmps118 .go .go .go .go ?_
 intro C F hC hP hF hn (hx : C.fx = [])
 have kp : KL [0, 1, 2, 4] := ⟨⟩
 have kr : KR #[.tmp 4] := ⟨⟩
 have c0 := Hold.mk @impl_within.link
 simp only [impl_isNode.f] at H
 apply BZ.out
 exact BZ.go
set_option maxHeartbeats 8000000 in
theorem impl_comesNext.link {l0_0 : List (S71)} {l0_1 : List (S111)} {l0_2 : List (S115)} {l1_0 : List Int} {l1_1 : List ByteArray} {l1_2 : List Int} {a1_3 : Int} {r : Int × Int × ByteArray × ByteArray × ByteArray × List Int × Bool} (H : impl_comesNext.f l0_0 l0_1 l0_2 l1_0 l1_1 l1_2 a1_3 = some r) : ACalls Tryz.prog 117 [.dat true [.sl none 6 (List.flatMap e71 l0_0), .sl none 4 (List.flatMap e111 l0_1), .sl none 4 (List.flatMap e115 l0_2)], .dat true [.sl none 1 (List.flatMap eI l1_0), .sl none 1 (List.flatMap eS l1_1), .sl none 1 (List.flatMap eI l1_2), .sc (.int .i64 a1_3)]] [(true, [.sc (.int .i64 r.1), .sc (.int .i64 r.2.1), .sc (.string r.2.2.1), .sc (.string r.2.2.2.1), .sc (.string r.2.2.2.2.1), .sl none 1 (List.flatMap eI r.2.2.2.2.2.1)]), (false, [.sc (.bool r.2.2.2.2.2.2)])] [.dat true [.sl none 6 (List.flatMap e71 l0_0), .sl none 4 (List.flatMap e111 l0_1), .sl none 4 (List.flatMap e115 l0_2)], .dat true [.sl none 1 (List.flatMap eI l1_0), .sl none 1 (List.flatMap eS l1_1), .sl none 1 (List.flatMap eI l1_2), .sc (.int .i64 a1_3)]] := by
 refine ACalls.en Tryz.func117 Tryz.ntmps117 .go .go .go .go ?_
 intro C F hC hP hF hn (hx : C.fx = [])
 have kp : KL [0, 1, 2, 3, 4, 5, 22] := ⟨⟩
 have kr : KR #[.cell 4 71, .tmp 5] := ⟨⟩
 have kd0 : KD 1 (noneL [0, 1, 2, 3, 4, 5, 6, 7, 8, 9, 10, 11, 12, 13] ++ ((14, some []) :: (noneL [15, 16] ++ []))) := ⟨⟩
 have kd1 : KD 3 (noneL [0, 1, 2, 3, 4, 5, 6, 7, 8, 9, 10, 11] ++ ((12, some []) :: (noneL [13] ++ []))) := ⟨⟩
 have c0 := Hold.mk @impl_isNode.link
 simp only [impl_comesNext.f] at H
 apply BZn.out
 exact BZn.go
set_option maxHeartbeats 8000000 in
theorem impl_StateOf.link {l0_0 : List (S71)} {l0_1 : List (S111)} {l0_2 : List (S115)} {l1_0 : List Int} {l1_1 : List ByteArray} {l1_2 : List Int} {a1_3 : Int} {r : Int} (H : impl_StateOf.f l0_0 l0_1 l0_2 l1_0 l1_1 l1_2 a1_3 = some r) : ACalls Tryz.prog 52 [.dat true [.sl none 6 (List.flatMap e71 l0_0), .sl none 4 (List.flatMap e111 l0_1), .sl none 4 (List.flatMap e115 l0_2)], .dat true [.sl none 1 (List.flatMap eI l1_0), .sl none 1 (List.flatMap eS l1_1), .sl none 1 (List.flatMap eI l1_2), .sc (.int .i64 a1_3)]] [(false, [.sc (.int .i64 r)])] [.dat true [.sl none 6 (List.flatMap e71 l0_0), .sl none 4 (List.flatMap e111 l0_1), .sl none 4 (List.flatMap e115 l0_2)], .dat true [.sl none 1 (List.flatMap eI l1_0), .sl none 1 (List.flatMap eS l1_1), .sl none 1 (List.flatMap eI l1_2), .sc (.int .i64 a1_3)]] := by
 refine ACalls.en Tryz.func52 Tryz.ntmps52 .go .go .go .go ?_
 intro C F hC hP hF hn (hx : C.fx = [])
 have kp : KL [0, 1, 2, 3, 4, 5, 7, 11, 23, 24] := ⟨⟩
 have kr : KR #[.tmp 4] := ⟨⟩
 have c0 := Hold.mk @impl_comesNext.link
 simp only [impl_StateOf.f] at H
 apply BZ.out
 exact BZ.go
set_option maxHeartbeats 8000000 in
theorem slices_Index_int_int.link {k : Nat} {l0 : List Int} {a1 : Int} {r : Int} (H : slices_Index_int_int.f k l0 a1 = some r) : ACalls Tryz.prog 159 [.dat false [.sl none 1 (List.flatMap eI l0)], .dat false [.sc (.int .i64 a1)]] [(false, [.sc (.int .i64 r)])] [.dat false [.sl none 1 (List.flatMap eI l0)], .dat false [.sc (.int .i64 a1)]] := by
 refine ACalls.en Tryz.func159 Tryz.ntmps159 .go .go .go .go ?_
 intro C F hC hP hF hn (hx : C.fx = [])
 have kp : KL [0, 1, 4, 5, 7, 8, 9, 16] := ⟨⟩
 have kr : KR #[.tmp 4] := ⟨⟩
 simp only [slices_Index_int_int.f] at H
 have w0 : LJ [0, 1, 7, 8] (fun q X => ∃ x0, ∃ x1, ∃ x7, ∃ x8, X = ⟨[(0, .dat false [.sl none 1 (List.flatMap eI x0)]), (1, .dat false [.sc (.int .i64 x1)]), (7, .dat false [.sc (.int .i64 x7)]), (8, .dat false [.sc (.int .i64 x8)])], []⟩ ∧ q ≤ k ∧ slices_Index_int_int.l0 q x0 x1 x7 x8 = some r) := ⟨⟩
 apply late
 · intro lp0
   apply BZ.out
   exact BZ.go
 · intro q1 X hJ ih0
   clear H
   obtain ⟨x0, x1, x7, x8, rfl, hq, H⟩ := hJ
   cases q1 with
   | zero => (simp only [slices_Index_int_int.l0] at H; cases H)
   | succ kq1 =>
    simp only [slices_Index_int_int.l0] at H
    apply BZn.out
    exact BZn.go
set_option maxHeartbeats 8000000 in
theorem slices_Contains_int_int.link {k : Nat} {l0 : List Int} {a1 : Int} {r : Bool} (H : slices_Contains_int_int.f k l0 a1 = some r) : ACalls Tryz.prog 120 [.dat false [.sl none 1 (List.flatMap eI l0)], .dat false [.sc (.int .i64 a1)]] [(false, [.sc (.bool r)])] [.dat false [.sl none 1 (List.flatMap eI l0)], .dat false [.sc (.int .i64 a1)]] := by
 refine ACalls.en Tryz.func120 Tryz.ntmps120 .go .go .go .go ?_
 intro C F hC hP hF hn (hx : C.fx = [])
 have kp : KL [0, 1, 4] := ⟨⟩
 have kr : KR #[.tmp 4] := ⟨⟩
 have c0 := Hold.mk @slices_Index_int_int.link
 simp only [slices_Contains_int_int.f] at H
 apply BZ.out
 exact BZ.go
set_option maxHeartbeats 8000000 in
theorem impl_isValue.link {l0_0 : List (S71)} {l0_1 : List (S111)} {l0_2 : List (S115)} {a1 : Int} {r : Bool} (H : impl_isValue.f l0_0 l0_1 l0_2 a1 = some r) : ACalls Tryz.prog 54 [.dat true [.sl none 6 (List.flatMap e71 l0_0), .sl none 4 (List.flatMap e111 l0_1), .sl none 4 (List.flatMap e115 l0_2)], .dat false [.sc (.int .i64 a1)]] [(false, [.sc (.bool r)])] [.dat true [.sl none 6 (List.flatMap e71 l0_0), .sl none 4 (List.flatMap e111 l0_1), .sl none 4 (List.flatMap e115 l0_2)], .dat false [.sc (.int .i64 a1)]] := by
 refine ACalls.en Tryz.func54 Tryz.ntmps54 .go .go .go .go ?_
 intro C F hC hP hF hn (hx : C.fx = [])
 have kp : KL [0, 1, 2, 4] := ⟨⟩
 have kr : KR #[.tmp 4] := ⟨⟩
 have c0 := Hold.mk @impl_within.link
 have c1 := Hold.mk @impl_isNode.link
 simp only [impl_isValue.f] at H
 apply BZn.out
 exact BZn.go
end Go.Proofs.YtjjhknklnclokaaGreat.PFnExactStepThread
