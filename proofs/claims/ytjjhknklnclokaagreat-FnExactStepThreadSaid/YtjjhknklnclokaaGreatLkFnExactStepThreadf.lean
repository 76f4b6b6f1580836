/- Functions' walks: each computes what its plain form says. No condition. -/
import Derived.Test.YtjjhknklnclokaaGreatLkFnExactStepThreadh
import Derived.Test.YtjjhknklnclokaaGreatLkFnExactStepThreadc
import Derived.Test.YtjjhknklnclokaaGreatLkFnExactStepThreadd
import Derived.Test.YtjjhknklnclokaaGreatLkFnExactStepThreade
open Go Go.Proofs Go.Proofs.YtjjhknklnclokaaGreat.Abs
namespace Go.Proofs.YtjjhknklnclokaaGreat.PFnExactStepThread
open Go.RowKit Go.Proofs.YtjjhknklnclokaaGreatW.PrintWords Go.Proofs.YtjjhknklnclokaaGreatW.PrintLast Go.Proofs.YtjjhknklnclokaaGreatW.PrintMore
set_option linter.unusedVariables false
set_option linter.unusedSimpArgs false
set_option maxRecDepth 100000
attribute [local irreducible] evK evQ evM evF evW evH goE goK goKD goQ goQD goD Ok ACalls
set_option maxHeartbeats 8000000 in
theorem impl_StepThread.link {k : Nat} {l0_0 : List (S71)} {l0_1 : List (S111)} {l0_2 : List (S115)} {l1_0 : List Int} {l1_1 : List ByteArray} {l1_2 : List Int} {a1_3 : Int} {r : List Int × List ByteArray × List Int × Int} (H : impl_StepThread.f k l0_0 l0_1 l0_2 l1_0 l1_1 l1_2 a1_3 = some r) : ACalls Tryz.prog 17 [.dat true [.sl none 6 (List.flatMap e71 l0_0), .sl none 4 (List.flatMap e111 l0_1), .sl none 4 (List.flatMap e115 l0_2)], .dat true [.sl none 1 (List.flatMap eI l1_0), .sl none 1 (List.flatMap eS l1_1), .sl none 1 (List.flatMap eI l1_2), .sc (.int .i64 a1_3)]] [(true, [.sl (some 0) 1 (List.flatMap eI r.1), .sl (some 0) 1 (List.flatMap eS r.2.1), .sl (some 0) 1 (List.flatMap eI r.2.2.1), .sc (.int .i64 r.2.2.2)])] [.dat true [.sl none 6 (List.flatMap e71 l0_0), .sl none 4 (List.flatMap e111 l0_1), .sl none 4 (List.flatMap e115 l0_2)], .dat true [.sl none 1 (List.flatMap eI l1_0), .sl none 1 (List.flatMap eS l1_1), .sl none 1 (List.flatMap eI l1_2), .sc (.int .i64 a1_3)]] := by
 refine ACalls.en Tryz.func17 Tryz.ntmps17 .go .go .go .go ?_
 intro C F hC hP hF hn (hx : C.fx = [])
 have kp : KL [0, 1, 2, 3, 4, 5, 6, 7, 8, 9, 10, 11, 17, 35, 55, 68, 76, 77, 86, 89, 102, 112, 115, 126, 133, 149] := ⟨⟩
 have kr : KR #[.cell 4 47] := ⟨⟩
 have kd0 : KD 11 (noneL [0, 1, 2, 3, 4, 5, 6] ++ ((7, some []) :: (noneL [8, 9, 10, 11, 12] ++ []))) := ⟨⟩
 have kd1 : KD 22 (noneL [0, 1, 2, 3, 4, 5] ++ ((6, some [1, 0]) :: ((7, some []) :: (noneL [8] ++ ((9, some []) :: ([])))))) := ⟨⟩
 have kd2 : KD 24 (noneL [0, 1, 2, 3, 4, 5] ++ ((6, some [1, 0]) :: ((7, some []) :: (noneL [8] ++ ((9, some []) :: ([])))))) := ⟨⟩
 have kd3 : KD 27 (noneL [0, 1, 2, 3, 4, 5, 6] ++ ((7, some [1, 0]) :: ((8, some []) :: (noneL [9] ++ ((10, some []) :: ([])))))) := ⟨⟩
 have kd4 : KD 32 (noneL [0, 1, 2, 3, 4, 5, 6] ++ ((7, some [1, 0]) :: ((8, some []) :: (noneL [9] ++ ((10, some []) :: ([])))))) := ⟨⟩
 have c0 := Hold.mk @impl_copyThread.link
 have c1 := Hold.mk @impl_StateOf.link
 have c2 := Hold.mk @impl_isValue.link
 have c3 := Hold.mk @impl_NodeOk.link
 have c4 := Hold.mk @impl_ValueOf.link
 have c5 := Hold.mk @impl_Past.link
 have c6 := Hold.mk @impl_PutIn.link
 simp only [impl_StepThread.f] at H
 replace H := Hold.mk H
 first
  | (with_reducible replace H := Hold.mk (sBindA H.out (by assumption)))
  | (have H1 := sBind H.out; clear H; obtain ⟨t, hA, H⟩ := H1; replace H := Hold.mk H)
 first
  | (with_reducible replace H := Hold.mk (sBindA H.out (by assumption)))
  | (have H1 := sBind H.out; clear H; obtain ⟨t, hA, H⟩ := H1; replace H := Hold.mk H)
 obtain ⟨H, H0⟩ | ⟨H, H0⟩ := sIteU H.out
 · (try simp only [List.length_append, List.length_cons, List.length_nil, Nat.zero_add, beq_dec, bne_dec, Bool.or_eq_true, Bool.and_eq_true, Bool.not_eq_true', decide_eq_true_eq, decide_eq_false_iff_not, ite_or', ite_and', ite_not', ge_iff_le, gt_iff_lt] at H)
   repeat' first
    | (with_reducible replace H := sBindA H (by assumption))
    | (with_reducible replace H := sBindS H)
    | (with_reducible replace H := sBind H); obtain ⟨t, hA, H⟩ := H
    | (with_reducible replace H := sBool H); obtain ⟨c, H⟩ | ⟨c, H⟩ := H
    | (with_reducible replace H := sEq H); obtain ⟨c, c', H⟩ | ⟨c, c', H⟩ := H
    | (with_reducible replace H := sEqL H); obtain ⟨c, H⟩ | ⟨c, H⟩ := H
    | (with_reducible replace H := sIte H); obtain ⟨c, H⟩ | ⟨c, H⟩ := H
    | (with_reducible replace H := sAnd H); obtain ⟨c, H⟩ | ⟨c, H⟩ := H
    | (with_reducible replace H := sOr H); obtain ⟨c, H⟩ | ⟨c, H⟩ := H
   all_goals cases H
   all_goals (replace H0 := Hold.mk H0; have H := H0; clear H0)
   all_goals (
    obtain ⟨H, H0⟩ | ⟨H, H0⟩ := sIteU H.out
    · (try simp only [List.length_append, List.length_cons, List.length_nil, Nat.zero_add, beq_dec, bne_dec, Bool.or_eq_true, Bool.and_eq_true, Bool.not_eq_true', decide_eq_true_eq, decide_eq_false_iff_not, ite_or', ite_and', ite_not', ge_iff_le, gt_iff_lt] at H)
      repeat' first
       | (with_reducible replace H := sBindA H (by assumption))
       | (with_reducible replace H := sBindS H)
       | (with_reducible replace H := sBind H); obtain ⟨t, hA, H⟩ := H
       | (with_reducible replace H := sBool H); obtain ⟨c, H⟩ | ⟨c, H⟩ := H
       | (with_reducible replace H := sEq H); obtain ⟨c, c', H⟩ | ⟨c, c', H⟩ := H
       | (with_reducible replace H := sEqL H); obtain ⟨c, H⟩ | ⟨c, H⟩ := H
       | (with_reducible replace H := sIte H); obtain ⟨c, H⟩ | ⟨c, H⟩ := H
       | (with_reducible replace H := sAnd H); obtain ⟨c, H⟩ | ⟨c, H⟩ := H
       | (with_reducible replace H := sOr H); obtain ⟨c, H⟩ | ⟨c, H⟩ := H
      all_goals cases H
      all_goals (replace H0 := Hold.mk H0; have H := H0; clear H0)
      all_goals (
       obtain ⟨H, H0⟩ | ⟨H, H0⟩ := sIteU H.out
       · (try simp only [List.length_append, List.length_cons, List.length_nil, Nat.zero_add, beq_dec, bne_dec, Bool.or_eq_true, Bool.and_eq_true, Bool.not_eq_true', decide_eq_true_eq, decide_eq_false_iff_not, ite_or', ite_and', ite_not', ge_iff_le, gt_iff_lt] at H)
         repeat' first
          | (with_reducible replace H := sBindA H (by assumption))
          | (with_reducible replace H := sBindS H)
          | (with_reducible replace H := sBind H); obtain ⟨t, hA, H⟩ := H
          | (with_reducible replace H := sBool H); obtain ⟨c, H⟩ | ⟨c, H⟩ := H
          | (with_reducible replace H := sEq H); obtain ⟨c, c', H⟩ | ⟨c, c', H⟩ := H
          | (with_reducible replace H := sEqL H); obtain ⟨c, H⟩ | ⟨c, H⟩ := H
          | (with_reducible replace H := sIte H); obtain ⟨c, H⟩ | ⟨c, H⟩ := H
          | (with_reducible replace H := sAnd H); obtain ⟨c, H⟩ | ⟨c, H⟩ := H
          | (with_reducible replace H := sOr H); obtain ⟨c, H⟩ | ⟨c, H⟩ := H
         all_goals cases H
         all_goals (replace H0 := Hold.mk H0; have H := H0; clear H0)
         all_goals (
          have m0 : LM 2 5 [2, 3, 4, 5, 6, 35] (fun X => ∃ x6, ∃ x35, ∃ x696000, ∃ x696001, ∃ x696002, ∃ x697000, ∃ x697001, ∃ x697002, ∃ x697003, ∃ x709000, ∃ x709001, ∃ x709002, ∃ x709003, ∃ q, X = ⟨[(2, .pl 0 none 0), (3, .pl 1 none 0), (4, .pl 2 none 0), (5, .pl 3 none 0), (6, .dat false [.sc (.int .i64 x6)]), (35, .dat false [.sc (.bool x35)])], [(0, .mem [.sl none 6 (List.flatMap e71 x696000), .sl none 4 (List.flatMap e111 x696001), .sl none 4 (List.flatMap e115 x696002)]), (1, .mem [.sl none 1 (List.flatMap eI x697000), .sl none 1 (List.flatMap eS x697001), .sl none 1 (List.flatMap eI x697002), .sc (.int .i64 x697003)]), (2, .mem [.sl (some 0) 1 [], .sl (some 0) 1 [], .sl (some 0) 1 [], .sc (.int .i64 0)]), (3, .mem [.sl (some 0) 1 (List.flatMap eI x709000), .sl (some 0) 1 (List.flatMap eS x709001), .sl (some 0) 1 (List.flatMap eI x709002), .sc (.int .i64 x709003)])]⟩ ∧ q ≤ k ∧ impl_StepThread.j0 q x6 x35 x696000 x696001 x696002 x697000 x697001 x697002 x697003 x709000 x709001 x709002 x709003 = some r) := ⟨⟩
          apply late
          · intro pa0
            apply late
            · intro pb0
              apply BZc.out
              exact BZc.go
            · clear H
              intro X hJ
              obtain ⟨x6, x35, x696000, x696001, x696002, x697000, x697001, x697002, x697003, x709000, x709001, x709002, x709003, q1, rfl, hq, H⟩ := hJ
              cases q1 with
              | zero => (simp only [impl_StepThread.j0] at H; cases H)
              | succ kq1 =>
               simp only [impl_StepThread.j0] at H
               replace H := Hold.mk H
               obtain ⟨H, H0⟩ | ⟨H, H0⟩ := sIteU H.out
               · (try simp only [List.length_append, List.length_cons, List.length_nil, Nat.zero_add, beq_dec, bne_dec, Bool.or_eq_true, Bool.and_eq_true, Bool.not_eq_true', decide_eq_true_eq, decide_eq_false_iff_not, ite_or', ite_and', ite_not', ge_iff_le, gt_iff_lt] at H)
                 repeat' first
                  | (with_reducible replace H := sBindA H (by assumption))
                  | (with_reducible replace H := sBindS H)
                  | (with_reducible replace H := sBind H); obtain ⟨t, hA, H⟩ := H
                  | (with_reducible replace H := sBool H); obtain ⟨c, H⟩ | ⟨c, H⟩ := H
                  | (with_reducible replace H := sEq H); obtain ⟨c, c', H⟩ | ⟨c, c', H⟩ := H
                  | (with_reducible replace H := sEqL H); obtain ⟨c, H⟩ | ⟨c, H⟩ := H
                  | (with_reducible replace H := sIte H); obtain ⟨c, H⟩ | ⟨c, H⟩ := H
                  | (with_reducible replace H := sAnd H); obtain ⟨c, H⟩ | ⟨c, H⟩ := H
                  | (with_reducible replace H := sOr H); obtain ⟨c, H⟩ | ⟨c, H⟩ := H
                 all_goals cases H
                 all_goals (replace H0 := Hold.mk H0; have H := H0; clear H0)
                 all_goals (
                  replace H := H.out
                  apply BZa.out
                  exact BZa.go)
               · (try simp only [List.length_append, List.length_cons, List.length_nil, Nat.zero_add, beq_dec, bne_dec, Bool.or_eq_true, Bool.and_eq_true, Bool.not_eq_true', decide_eq_true_eq, decide_eq_false_iff_not, ite_or', ite_and', ite_not', ge_iff_le, gt_iff_lt] at H)
                 repeat' first
                  | (with_reducible replace H := sBindA H (by assumption))
                  | (with_reducible replace H := sBindS H)
                  | (with_reducible replace H := sBind H); obtain ⟨t, hA, H⟩ := H
                  | (with_reducible replace H := sBool H); obtain ⟨c, H⟩ | ⟨c, H⟩ := H
                  | (with_reducible replace H := sEq H); obtain ⟨c, c', H⟩ | ⟨c, c', H⟩ := H
                  | (with_reducible replace H := sEqL H); obtain ⟨c, H⟩ | ⟨c, H⟩ := H
                  | (with_reducible replace H := sIte H); obtain ⟨c, H⟩ | ⟨c, H⟩ := H
                  | (with_reducible replace H := sAnd H); obtain ⟨c, H⟩ | ⟨c, H⟩ := H
                  | (with_reducible replace H := sOr H); obtain ⟨c, H⟩ | ⟨c, H⟩ := H
                 all_goals cases H
                 all_goals (replace H0 := Hold.mk H0; have H := H0; clear H0)
                 all_goals (
                  obtain ⟨H, H0⟩ | ⟨H, H0⟩ := sIteU H.out
                  · (try simp only [List.length_append, List.length_cons, List.length_nil, Nat.zero_add, beq_dec, bne_dec, Bool.or_eq_true, Bool.and_eq_true, Bool.not_eq_true', decide_eq_true_eq, decide_eq_false_iff_not, ite_or', ite_and', ite_not', ge_iff_le, gt_iff_lt] at H)
                    repeat' first
                     | (with_reducible replace H := sBindA H (by assumption))
                     | (with_reducible replace H := sBindS H)
                     | (with_reducible replace H := sBind H); obtain ⟨t, hA, H⟩ := H
                     | (with_reducible replace H := sBool H); obtain ⟨c, H⟩ | ⟨c, H⟩ := H
                     | (with_reducible replace H := sEq H); obtain ⟨c, c', H⟩ | ⟨c, c', H⟩ := H
                     | (with_reducible replace H := sEqL H); obtain ⟨c, H⟩ | ⟨c, H⟩ := H
                     | (with_reducible replace H := sIte H); obtain ⟨c, H⟩ | ⟨c, H⟩ := H
                     | (with_reducible replace H := sAnd H); obtain ⟨c, H⟩ | ⟨c, H⟩ := H
                     | (with_reducible replace H := sOr H); obtain ⟨c, H⟩ | ⟨c, H⟩ := H
                    all_goals cases H
                    all_goals (replace H0 := Hold.mk H0; have H := H0; clear H0)
                    all_goals (
                     obtain ⟨H, H0⟩ | ⟨H, H0⟩ := sIteU H.out
                     · (try simp only [List.length_append, List.length_cons, List.length_nil, Nat.zero_add, beq_dec, bne_dec, Bool.or_eq_true, Bool.and_eq_true, Bool.not_eq_true', decide_eq_true_eq, decide_eq_false_iff_not, ite_or', ite_and', ite_not', ge_iff_le, gt_iff_lt] at H)
                       repeat' first
                        | (with_reducible replace H := sBindA H (by assumption))
                        | (with_reducible replace H := sBindS H)
                        | (with_reducible replace H := sBind H); obtain ⟨t, hA, H⟩ := H
                        | (with_reducible replace H := sBool H); obtain ⟨c, H⟩ | ⟨c, H⟩ := H
                        | (with_reducible replace H := sEq H); obtain ⟨c, c', H⟩ | ⟨c, c', H⟩ := H
                        | (with_reducible replace H := sEqL H); obtain ⟨c, H⟩ | ⟨c, H⟩ := H
                        | (with_reducible replace H := sIte H); obtain ⟨c, H⟩ | ⟨c, H⟩ := H
                        | (with_reducible replace H := sAnd H); obtain ⟨c, H⟩ | ⟨c, H⟩ := H
                        | (with_reducible replace H := sOr H); obtain ⟨c, H⟩ | ⟨c, H⟩ := H
                       all_goals cases H
                       all_goals (replace H0 := Hold.mk H0; have H := H0; clear H0)
                       all_goals (
                        have m0 : LM 2 10 [2, 3, 4, 5, 6, 7, 8, 55] (fun X => ∃ x6, ∃ x8, ∃ x55, ∃ x696000, ∃ x696001, ∃ x696002, ∃ x697000, ∃ x697001, ∃ x697002, ∃ x697003, ∃ x709000, ∃ x709001, ∃ x709002, ∃ x709003, ∃ x715000, ∃ x715001, ∃ x715002, ∃ x715003, ∃ x715004, ∃ x715005, ∃ q, X = ⟨[(2, .pl 0 none 0), (3, .pl 1 none 0), (4, .pl 2 none 0), (5, .pl 3 none 0), (6, .dat false [.sc (.int .i64 x6)]), (7, .pl 4 none 0), (8, .dat false [.sc (.int .i64 x8)]), (55, .dat false [.sc (.bool x55)])], [(0, .mem [.sl none 6 (List.flatMap e71 x696000), .sl none 4 (List.flatMap e111 x696001), .sl none 4 (List.flatMap e115 x696002)]), (1, .mem [.sl none 1 (List.flatMap eI x697000), .sl none 1 (List.flatMap eS x697001), .sl none 1 (List.flatMap eI x697002), .sc (.int .i64 x697003)]), (2, .mem [.sl (some 0) 1 [], .sl (some 0) 1 [], .sl (some 0) 1 [], .sc (.int .i64 0)]), (3, .mem [.sl (some 0) 1 (List.flatMap eI x709000), .sl (some 0) 1 (List.flatMap eS x709001), .sl (some 0) 1 (List.flatMap eI x709002), .sc (.int .i64 x709003)]), (4, .mem [.sc (.int .i64 x715000), .sc (.int .i64 x715001), .sc (.string x715002), .sc (.string x715003), .sc (.string x715004), .sl none 1 (List.flatMap eI x715005)])]⟩ ∧ q ≤ kq1 ∧ impl_StepThread.j1 q x6 x8 x55 x696000 x696001 x696002 x697000 x697001 x697002 x697003 x709000 x709001 x709002 x709003 x715000 x715001 x715002 x715003 x715004 x715005 = some r) := ⟨⟩
                        apply late
                        · intro pa0
                          apply late
                          · intro pb0
                            apply BZc.out
                            exact BZc.go
                          · clear H
                            intro X hJ
                            obtain ⟨x6, x8, x55, x696000, x696001, x696002, x697000, x697001, x697002, x697003, x709000, x709001, x709002, x709003, x715000, x715001, x715002, x715003, x715004, x715005, q2, rfl, hq, H⟩ := hJ
                            cases q2 with
                            | zero => (simp only [impl_StepThread.j1] at H; cases H)
                            | succ kq2 =>
                             simp only [impl_StepThread.j1] at H
                             replace H := Hold.mk H
                             have m0 : LM 1 55 [3, 4, 5, 6, 7, 8] (fun X => ∃ x6, ∃ x8, ∃ x697000, ∃ x697001, ∃ x697002, ∃ x697003, ∃ x715000, ∃ x715001, ∃ x715002, ∃ x715003, ∃ x715004, ∃ x715005, ∃ x709000, ∃ x709001, ∃ x709002, ∃ x709003, ∃ q, X = ⟨[(3, .pl 0 none 0), (4, .pl 1 none 0), (5, .pl 2 none 0), (6, .dat false [.sc (.int .i64 x6)]), (7, .pl 3 none 0), (8, .dat false [.sc (.int .i64 x8)])], [(0, .mem [.sl none 1 (List.flatMap eI x697000), .sl none 1 (List.flatMap eS x697001), .sl none 1 (List.flatMap eI x697002), .sc (.int .i64 x697003)]), (1, .mem [.sl (some 0) 1 [], .sl (some 0) 1 [], .sl (some 0) 1 [], .sc (.int .i64 0)]), (2, .mem [.sl (some 0) 1 (List.flatMap eI x709000), .sl (some 0) 1 (List.flatMap eS x709001), .sl (some 0) 1 (List.flatMap eI x709002), .sc (.int .i64 x709003)]), (3, .mem [.sc (.int .i64 x715000), .sc (.int .i64 x715001), .sc (.string x715002), .sc (.string x715003), .sc (.string x715004), .sl none 1 (List.flatMap eI x715005)])]⟩ ∧ q ≤ kq2 ∧ impl_StepThread.j2 q x6 x8 x697000 x697001 x697002 x697003 x715000 x715001 x715002 x715003 x715004 x715005 = some r) := ⟨⟩
                             apply late
                             · intro pa0
                               apply late
                               · intro pb0
                                 apply BZc.out
                                 exact BZc.go
                               · clear H
                                 intro X hJ
                                 obtain ⟨x6, x8, x697000, x697001, x697002, x697003, x715000, x715001, x715002, x715003, x715004, x715005, x709000, x709001, x709002, x709003, q3, rfl, hq, H⟩ := hJ
                                 cases q3 with
                                 | zero => (simp only [impl_StepThread.j2] at H; cases H)
                                 | succ kq3 =>
                                  simp only [impl_StepThread.j2] at H
                                  have w0 : LJ [4, 5, 7, 11] (fun q X => ∃ x11, ∃ x709000, ∃ x709001, ∃ x709002, ∃ x709003, ∃ x715000, ∃ x715001, ∃ x715002, ∃ x715003, ∃ x715004, ∃ x715005, X = ⟨[(4, .pl 0 none 0), (5, .pl 1 none 0), (7, .pl 2 none 0), (11, .dat false [.sc (.int .i64 x11)])], [(0, .mem [.sl (some 0) 1 [], .sl (some 0) 1 [], .sl (some 0) 1 [], .sc (.int .i64 0)]), (1, .mem [.sl (some 0) 1 (List.flatMap eI x709000), .sl (some 0) 1 (List.flatMap eS x709001), .sl (some 0) 1 (List.flatMap eI x709002), .sc (.int .i64 x709003)]), (2, .mem [.sc (.int .i64 x715000), .sc (.int .i64 x715001), .sc (.string x715002), .sc (.string x715003), .sc (.string x715004), .sl none 1 (List.flatMap eI x715005)])]⟩ ∧ q ≤ kq3 ∧ impl_StepThread.l0 q x11 x709000 x709001 x709002 x709003 x715000 x715001 x715002 x715003 x715004 x715005 = some r) := ⟨⟩
                                  apply late
                                  · intro lp0
                                    apply BZna.out
                                    exact BZna.go
                                  · intro q4 X hJ ih0
                                    clear H
                                    obtain ⟨x11, x709000, x709001, x709002, x709003, x715000, x715001, x715002, x715003, x715004, x715005, rfl, hq, H⟩ := hJ
                                    cases q4 with
                                    | zero => (simp only [impl_StepThread.l0] at H; cases H)
                                    | succ kq4 =>
                                     simp only [impl_StepThread.l0] at H
                                     apply BZna.out
                                     exact BZna.go
                             · intro hj0
                               replace H := H.out
                               apply BZa.out
                               exact BZa.go
                        · intro hj0
                          replace H := H.out
                          apply BZa.out
                          exact BZa.go)
                     · (try simp only [List.length_append, List.length_cons, List.length_nil, Nat.zero_add, beq_dec, bne_dec, Bool.or_eq_true, Bool.and_eq_true, Bool.not_eq_true', decide_eq_true_eq, decide_eq_false_iff_not, ite_or', ite_and', ite_not', ge_iff_le, gt_iff_lt] at H)
                       repeat' first
                        | (with_reducible replace H := sBindA H (by assumption))
                        | (with_reducible replace H := sBindS H)
                        | (with_reducible replace H := sBind H); obtain ⟨t, hA, H⟩ := H
                        | (with_reducible replace H := sBool H); obtain ⟨c, H⟩ | ⟨c, H⟩ := H
                        | (with_reducible replace H := sEq H); obtain ⟨c, c', H⟩ | ⟨c, c', H⟩ := H
                        | (with_reducible replace H := sEqL H); obtain ⟨c, H⟩ | ⟨c, H⟩ := H
                        | (with_reducible replace H := sIte H); obtain ⟨c, H⟩ | ⟨c, H⟩ := H
                        | (with_reducible replace H := sAnd H); obtain ⟨c, H⟩ | ⟨c, H⟩ := H
                        | (with_reducible replace H := sOr H); obtain ⟨c, H⟩ | ⟨c, H⟩ := H
                       all_goals cases H
                       all_goals (replace H0 := Hold.mk H0; have H := H0; clear H0)
                       all_goals (
                        cases H.out))
                  · (try simp only [List.length_append, List.length_cons, List.length_nil, Nat.zero_add, beq_dec, bne_dec, Bool.or_eq_true, Bool.and_eq_true, Bool.not_eq_true', decide_eq_true_eq, decide_eq_false_iff_not, ite_or', ite_and', ite_not', ge_iff_le, gt_iff_lt] at H)
                    repeat' first
                     | (with_reducible replace H := sBindA H (by assumption))
                     | (with_reducible replace H := sBindS H)
                     | (with_reducible replace H := sBind H); obtain ⟨t, hA, H⟩ := H
                     | (with_reducible replace H := sBool H); obtain ⟨c, H⟩ | ⟨c, H⟩ := H
                     | (with_reducible replace H := sEq H); obtain ⟨c, c', H⟩ | ⟨c, c', H⟩ := H
                     | (with_reducible replace H := sEqL H); obtain ⟨c, H⟩ | ⟨c, H⟩ := H
                     | (with_reducible replace H := sIte H); obtain ⟨c, H⟩ | ⟨c, H⟩ := H
                     | (with_reducible replace H := sAnd H); obtain ⟨c, H⟩ | ⟨c, H⟩ := H
                     | (with_reducible replace H := sOr H); obtain ⟨c, H⟩ | ⟨c, H⟩ := H
                    all_goals cases H
                    all_goals (replace H0 := Hold.mk H0; have H := H0; clear H0)
                    all_goals (
                     cases H.out))
          · intro hj0
            replace H := H.out
            apply BZa.out
            exact BZa.go)
       · (try simp only [List.length_append, List.length_cons, List.length_nil, Nat.zero_add, beq_dec, bne_dec, Bool.or_eq_true, Bool.and_eq_true, Bool.not_eq_true', decide_eq_true_eq, decide_eq_false_iff_not, ite_or', ite_and', ite_not', ge_iff_le, gt_iff_lt] at H)
         repeat' first
          | (with_reducible replace H := sBindA H (by assumption))
          | (with_reducible replace H := sBindS H)
          | (with_reducible replace H := sBind H); obtain ⟨t, hA, H⟩ := H
          | (with_reducible replace H := sBool H); obtain ⟨c, H⟩ | ⟨c, H⟩ := H
          | (with_reducible replace H := sEq H); obtain ⟨c, c', H⟩ | ⟨c, c', H⟩ := H
          | (with_reducible replace H := sEqL H); obtain ⟨c, H⟩ | ⟨c, H⟩ := H
          | (with_reducible replace H := sIte H); obtain ⟨c, H⟩ | ⟨c, H⟩ := H
          | (with_reducible replace H := sAnd H); obtain ⟨c, H⟩ | ⟨c, H⟩ := H
          | (with_reducible replace H := sOr H); obtain ⟨c, H⟩ | ⟨c, H⟩ := H
         all_goals cases H
         all_goals (replace H0 := Hold.mk H0; have H := H0; clear H0)
         all_goals (
          cases H.out))
    · (try simp only [List.length_append, List.length_cons, List.length_nil, Nat.zero_add, beq_dec, bne_dec, Bool.or_eq_true, Bool.and_eq_true, Bool.not_eq_true', decide_eq_true_eq, decide_eq_false_iff_not, ite_or', ite_and', ite_not', ge_iff_le, gt_iff_lt] at H)
      repeat' first
       | (with_reducible replace H := sBindA H (by assumption))
       | (with_reducible replace H := sBindS H)
       | (with_reducible replace H := sBind H); obtain ⟨t, hA, H⟩ := H
       | (with_reducible replace H := sBool H); obtain ⟨c, H⟩ | ⟨c, H⟩ := H
       | (with_reducible replace H := sEq H); obtain ⟨c, c', H⟩ | ⟨c, c', H⟩ := H
       | (with_reducible replace H := sEqL H); obtain ⟨c, H⟩ | ⟨c, H⟩ := H
       | (with_reducible replace H := sIte H); obtain ⟨c, H⟩ | ⟨c, H⟩ := H
       | (with_reducible replace H := sAnd H); obtain ⟨c, H⟩ | ⟨c, H⟩ := H
       | (with_reducible replace H := sOr H); obtain ⟨c, H⟩ | ⟨c, H⟩ := H
      all_goals cases H
      all_goals (replace H0 := Hold.mk H0; have H := H0; clear H0)
      all_goals (
       cases H.out))
 · (try simp only [List.length_append, List.length_cons, List.length_nil, Nat.zero_add, beq_dec, bne_dec, Bool.or_eq_true, Bool.and_eq_true, Bool.not_eq_true', decide_eq_true_eq, decide_eq_false_iff_not, ite_or', ite_and', ite_not', ge_iff_le, gt_iff_lt] at H)
   repeat' first
    | (with_reducible replace H := sBindA H (by assumption))
    | (with_reducible replace H := sBindS H)
    | (with_reducible replace H := sBind H); obtain ⟨t, hA, H⟩ := H
    | (with_reducible replace H := sBool H); obtain ⟨c, H⟩ | ⟨c, H⟩ := H
    | (with_reducible replace H := sEq H); obtain ⟨c, c', H⟩ | ⟨c, c', H⟩ := H
    | (with_reducible replace H := sEqL H); obtain ⟨c, H⟩ | ⟨c, H⟩ := H
    | (with_reducible replace H := sIte H); obtain ⟨c, H⟩ | ⟨c, H⟩ := H
    | (with_reducible replace H := sAnd H); obtain ⟨c, H⟩ | ⟨c, H⟩ := H
    | (with_reducible replace H := sOr H); obtain ⟨c, H⟩ | ⟨c, H⟩ := H
   all_goals cases H
   all_goals (replace H0 := Hold.mk H0; have H := H0; clear H0)
   all_goals (
    replace H := H.out
    apply BZa.out
    exact BZa.go)
end Go.Proofs.YtjjhknklnclokaaGreat.PFnExactStepThread
