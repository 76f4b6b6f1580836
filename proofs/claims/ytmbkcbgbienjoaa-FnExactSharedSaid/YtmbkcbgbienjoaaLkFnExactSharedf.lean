/- Functions' walks: each computes what its plain form says. No condition. -/
import Derived.Test.YtmbkcbgbienjoaaLkFnExactSharedh
import Derived.Test.YtmbkcbgbienjoaaLkFnExactSharedc
import Derived.Test.YtmbkcbgbienjoaaLkFnExactSharedd
import Derived.Test.YtmbkcbgbienjoaaLkFnExactSharede
open Go Go.Proofs Go.Proofs.Ytmbkcbgbienjoaa.Abs
namespace Go.Proofs.Ytmbkcbgbienjoaa.PFnExactShared
open Go.RowKit Go.Proofs.YtmbkcbgbienjoaaW.PrintWords Go.Proofs.YtmbkcbgbienjoaaW.PrintLast Go.Proofs.YtmbkcbgbienjoaaW.PrintMore
set_option linter.unusedVariables false
set_option linter.unusedSimpArgs false
set_option maxRecDepth 100000
attribute [local irreducible] evK evQ evM evF evW evH goE goK goKD goQ goQD goD Ok ACalls
set_option maxHeartbeats 8000000 in
theorem spec_NodeOk.link {k : Nat} {l0_0 : List (S77)} {l0_1 : List (S106)} {l0_2 : List (S103)} {a1 : Int} {r : Bool} (H : spec_NodeOk.f k l0_0 l0_1 l0_2 a1 = some r) : ACalls Try.prog 35 [.dat true [.sl none 6 (List.flatMap e77 l0_0), .sl none 4 (List.flatMap e106 l0_1), .sl none 4 (List.flatMap e103 l0_2)], .dat false [.sc (.int .i64 a1)]] [(false, [.sc (.bool r)])] [.dat true [.sl none 6 (List.flatMap e77 l0_0), .sl none 4 (List.flatMap e106 l0_1), .sl none 4 (List.flatMap e103 l0_2)], .dat false [.sc (.int .i64 a1)]] := by
 refine ACalls.en Try.func35 Try.ntmps35 .go .go .go .go ?_
 intro C F hC hP hF hn (hx : C.fx = [])
 have kp : KL [0, 1, 2, 4, 5, 6, 7, 8, 15, 25, 30, 43, 64, 108, 111, 126, 134, 136, 137, 142] := ⟨⟩
 have kr : KR #[.tmp 4] := ⟨⟩
 have c0 := Hold.mk @spec_l01In.link
 have c1 := Hold.mk @spec_l05Value.link
 have c2 := Hold.mk @spec_l05Statement.link
 have c3 := Hold.mk @spec_l05Kids.link
 have c4 := Hold.mk @spec_NameOk.link
 simp only [spec_NodeOk.f] at H
 have w0 : LJ [1, 2, 5, 6] (fun q X => ∃ x1, ∃ x6, ∃ x297000, ∃ x297001, ∃ x297002, ∃ x300000, ∃ x300001, ∃ x300002, ∃ x300003, ∃ x300004, ∃ x300005, X = ⟨[(1, .dat false [.sc (.int .i64 x1)]), (2, .pl 0 none 0), (5, .pl 1 none 0), (6, .dat false [.sc (.int .i64 x6)])], [(0, .mem [.sl none 6 (List.flatMap e77 x297000), .sl none 4 (List.flatMap e106 x297001), .sl none 4 (List.flatMap e103 x297002)]), (1, .mem [.sc (.int .i64 x300000), .sc (.int .i64 x300001), .sc (.string x300002), .sc (.string x300003), .sc (.string x300004), .sl none 1 (List.flatMap eI x300005)])]⟩ ∧ q ≤ k ∧ spec_NodeOk.l0 q x1 x6 x297000 x297001 x297002 x300000 x300001 x300002 x300003 x300004 x300005 = some r) := ⟨⟩
 apply late
 · intro lp0
   apply BZn.out
   exact BZn.go
 · intro q1 X hJ ih0
   clear H
   obtain ⟨x1, x6, x297000, x297001, x297002, x300000, x300001, x300002, x300003, x300004, x300005, rfl, hq, H⟩ := hJ
   cases q1 with
   | zero => (simp only [spec_NodeOk.l0] at H; cases H)
   | succ kq1 =>
    simp only [spec_NodeOk.l0] at H
    replace H := Hold.mk H
    obtain ⟨H, H0⟩ | ⟨H, H0⟩ := sIteU H.out
    · (try simp only [List.length_append, List.length_cons, List.length_nil, Nat.zero_add, beq_dec, bne_dec, Bool.or_eq_true, Bool.and_eq_true, Bool.not_eq_true', decide_eq_true_eq, decide_eq_false_iff_not, ite_or', ite_and', ite_not', ge_iff_le, gt_iff_lt] at H)
      repeat' first
       | (with_reducible replace H := sBindA H (by assumption))
       | (with_reducible replace H := sBindS H)
       | (with_reducible replace H := sBind H); obtain ⟨t, hA, H⟩ := H
       | (with_reducible replace H := sBool H); obtain ⟨c, H⟩ | ⟨c, H⟩ := H
       | (with_reducible replace H := sEq H); obtain ⟨c, c', H⟩ | ⟨c, c', H⟩ := H
       | (with_reducible replace H := sEqL H); obtain ⟨c, H⟩ | ⟨c, H⟩ := H
       | (with_reducible replace H := sIte H); obtain ⟨c, H⟩ | ⟨c, H⟩ := H
       | (with_reducible replace H := sAnd H); obtain ⟨c, H⟩ | ⟨c, H⟩ := H
       | (with_reducible replace H := sOr H); obtain ⟨c, H⟩ | ⟨c, H⟩ := H
      all_goals cases H
      all_goals (replace H0 := Hold.mk H0; have H := H0; clear H0)
      all_goals (
       replace H := H.out
       have w1 : LJ [1, 2, 5, 6, 7] (fun q X => ∃ x1, ∃ x6, ∃ x7, ∃ x297000, ∃ x297001, ∃ x297002, ∃ x300000, ∃ x300001, ∃ x300002, ∃ x300003, ∃ x300004, ∃ x300005, X = ⟨[(1, .dat false [.sc (.int .i64 x1)]), (2, .pl 0 none 0), (5, .pl 1 none 0), (6, .dat false [.sc (.int .i64 x6)]), (7, .dat false [.sc (.int .i64 x7)])], [(0, .mem [.sl none 6 (List.flatMap e77 x297000), .sl none 4 (List.flatMap e106 x297001), .sl none 4 (List.flatMap e103 x297002)]), (1, .mem [.sc (.int .i64 x300000), .sc (.int .i64 x300001), .sc (.string x300002), .sc (.string x300003), .sc (.string x300004), .sl none 1 (List.flatMap eI x300005)])]⟩ ∧ q ≤ kq1 ∧ spec_NodeOk.l1 q x1 x6 x7 x297000 x297001 x297002 x300000 x300001 x300002 x300003 x300004 x300005 = some r) := ⟨⟩
       apply late
       · intro lp1
         apply BZ.out
         exact BZ.go
       · intro q2 X hJ ih1
         clear H
         obtain ⟨x1, x6, x7, x297000, x297001, x297002, x300000, x300001, x300002, x300003, x300004, x300005, rfl, hq, H⟩ := hJ
         cases q2 with
         | zero => (simp only [spec_NodeOk.l1] at H; cases H)
         | succ kq2 =>
          simp only [spec_NodeOk.l1] at H
          apply BZn.out
          exact BZn.go)
    · (try simp only [List.length_append, List.length_cons, List.length_nil, Nat.zero_add, beq_dec, bne_dec, Bool.or_eq_true, Bool.and_eq_true, Bool.not_eq_true', decide_eq_true_eq, decide_eq_false_iff_not, ite_or', ite_and', ite_not', ge_iff_le, gt_iff_lt] at H)
      repeat' first
       | (with_reducible replace H := sBindA H (by assumption))
       | (with_reducible replace H := sBindS H)
       | (with_reducible replace H := sBind H); obtain ⟨t, hA, H⟩ := H
       | (with_reducible replace H := sBool H); obtain ⟨c, H⟩ | ⟨c, H⟩ := H
       | (with_reducible replace H := sEq H); obtain ⟨c, c', H⟩ | ⟨c, c', H⟩ := H
       | (with_reducible replace H := sEqL H); obtain ⟨c, H⟩ | ⟨c, H⟩ := H
       | (with_reducible replace H := sIte H); obtain ⟨c, H⟩ | ⟨c, H⟩ := H
       | (with_reducible replace H := sAnd H); obtain ⟨c, H⟩ | ⟨c, H⟩ := H
       | (with_reducible replace H := sOr H); obtain ⟨c, H⟩ | ⟨c, H⟩ := H
      all_goals cases H
      all_goals (replace H0 := Hold.mk H0; have H := H0; clear H0)
      all_goals (
       have m0 : LM 2 12 [5, 64] (fun X => ∃ x64, ∃ x300000, ∃ x300001, ∃ x300002, ∃ x300003, ∃ x300004, ∃ x300005, ∃ q, X = ⟨[(5, .pl 0 none 0), (64, .dat false [.sc (.bool x64)])], [(0, .mem [.sc (.int .i64 x300000), .sc (.int .i64 x300001), .sc (.string x300002), .sc (.string x300003), .sc (.string x300004), .sl none 1 (List.flatMap eI x300005)])]⟩ ∧ q ≤ kq1 ∧ spec_NodeOk.j2 q x64 x300000 x300001 x300002 x300003 x300004 x300005 = some r) := ⟨⟩
       apply late
       · intro pa0
         apply late
         · intro pb0
           apply BZc.out
           exact BZc.go
         · clear H
           intro X hJ
           obtain ⟨x64, x300000, x300001, x300002, x300003, x300004, x300005, q3, rfl, hq, H⟩ := hJ
           cases q3 with
           | zero => (simp only [spec_NodeOk.j2] at H; cases H)
           | succ kq3 =>
            simp only [spec_NodeOk.j2] at H
            replace H := Hold.mk H
            obtain ⟨H, H0⟩ | ⟨H, H0⟩ := sIteU H.out
            · (try simp only [List.length_append, List.length_cons, List.length_nil, Nat.zero_add, beq_dec, bne_dec, Bool.or_eq_true, Bool.and_eq_true, Bool.not_eq_true', decide_eq_true_eq, decide_eq_false_iff_not, ite_or', ite_and', ite_not', ge_iff_le, gt_iff_lt] at H)
              repeat' first
               | (with_reducible replace H := sBindA H (by assumption))
               | (with_reducible replace H := sBindS H)
               | (with_reducible replace H := sBind H); obtain ⟨t, hA, H⟩ := H
               | (with_reducible replace H := sBool H); obtain ⟨c, H⟩ | ⟨c, H⟩ := H
               | (with_reducible replace H := sEq H); obtain ⟨c, c', H⟩ | ⟨c, c', H⟩ := H
               | (with_reducible replace H := sEqL H); obtain ⟨c, H⟩ | ⟨c, H⟩ := H
               | (with_reducible replace H := sIte H); obtain ⟨c, H⟩ | ⟨c, H⟩ := H
               | (with_reducible replace H := sAnd H); obtain ⟨c, H⟩ | ⟨c, H⟩ := H
               | (with_reducible replace H := sOr H); obtain ⟨c, H⟩ | ⟨c, H⟩ := H
              all_goals cases H
              all_goals (replace H0 := Hold.mk H0; have H := H0; clear H0)
              all_goals (
               replace H := H.out
               apply BZ.out
               exact BZ.go)
            · (try simp only [List.length_append, List.length_cons, List.length_nil, Nat.zero_add, beq_dec, bne_dec, Bool.or_eq_true, Bool.and_eq_true, Bool.not_eq_true', decide_eq_true_eq, decide_eq_false_iff_not, ite_or', ite_and', ite_not', ge_iff_le, gt_iff_lt] at H)
              repeat' first
               | (with_reducible replace H := sBindA H (by assumption))
               | (with_reducible replace H := sBindS H)
               | (with_reducible replace H := sBind H); obtain ⟨t, hA, H⟩ := H
               | (with_reducible replace H := sBool H); obtain ⟨c, H⟩ | ⟨c, H⟩ := H
               | (with_reducible replace H := sEq H); obtain ⟨c, c', H⟩ | ⟨c, c', H⟩ := H
               | (with_reducible replace H := sEqL H); obtain ⟨c, H⟩ | ⟨c, H⟩ := H
               | (with_reducible replace H := sIte H); obtain ⟨c, H⟩ | ⟨c, H⟩ := H
               | (with_reducible replace H := sAnd H); obtain ⟨c, H⟩ | ⟨c, H⟩ := H
               | (with_reducible replace H := sOr H); obtain ⟨c, H⟩ | ⟨c, H⟩ := H
              all_goals cases H
              all_goals (replace H0 := Hold.mk H0; have H := H0; clear H0)
              all_goals (
               have m0 : LM 2 14 [5, 8] (fun X => ∃ x8, ∃ x300000, ∃ x300001, ∃ x300002, ∃ x300003, ∃ x300004, ∃ x300005, ∃ q, X = ⟨[(5, .pl 0 none 0), (8, .dat false [.sc (.bool x8)])], [(0, .mem [.sc (.int .i64 x300000), .sc (.int .i64 x300001), .sc (.string x300002), .sc (.string x300003), .sc (.string x300004), .sl none 1 (List.flatMap eI x300005)])]⟩ ∧ q ≤ kq3 ∧ spec_NodeOk.j3 q x8 x300000 x300001 x300002 x300003 x300004 x300005 = some r) := ⟨⟩
               apply late
               · intro pa0
                 apply late
                 · intro pb0
                   apply BZc.out
                   exact BZc.go
                 · clear H
                   intro X hJ
                   obtain ⟨x8, x300000, x300001, x300002, x300003, x300004, x300005, q4, rfl, hq, H⟩ := hJ
                   cases q4 with
                   | zero => (simp only [spec_NodeOk.j3] at H; cases H)
                   | succ kq4 =>
                    simp only [spec_NodeOk.j3] at H
                    replace H := Hold.mk H
                    have m0 : LM 2 15 [5, 108] (fun X => ∃ x108, ∃ x300000, ∃ x300001, ∃ x300002, ∃ x300003, ∃ x300004, ∃ x300005, ∃ q, X = ⟨[(5, .pl 0 none 0), (108, .dat false [.sc (.bool x108)])], [(0, .mem [.sc (.int .i64 x300000), .sc (.int .i64 x300001), .sc (.string x300002), .sc (.string x300003), .sc (.string x300004), .sl none 1 (List.flatMap eI x300005)])]⟩ ∧ q ≤ kq4 ∧ spec_NodeOk.j4 q x108 x300000 x300001 x300002 x300003 x300004 x300005 = some r) := ⟨⟩
                    apply late
                    · intro pa0
                      apply late
                      · intro pb0
                        apply BZc.out
                        exact BZc.go
                      · clear H
                        intro X hJ
                        obtain ⟨x108, x300000, x300001, x300002, x300003, x300004, x300005, q5, rfl, hq, H⟩ := hJ
                        cases q5 with
                        | zero => (simp only [spec_NodeOk.j4] at H; cases H)
                        | succ kq5 =>
                         simp only [spec_NodeOk.j4] at H
                         replace H := Hold.mk H
                         obtain ⟨H, H0⟩ | ⟨H, H0⟩ := sIteU H.out
                         · (try simp only [List.length_append, List.length_cons, List.length_nil, Nat.zero_add, beq_dec, bne_dec, Bool.or_eq_true, Bool.and_eq_true, Bool.not_eq_true', decide_eq_true_eq, decide_eq_false_iff_not, ite_or', ite_and', ite_not', ge_iff_le, gt_iff_lt] at H)
                           repeat' first
                            | (with_reducible replace H := sBindA H (by assumption))
                            | (with_reducible replace H := sBindS H)
                            | (with_reducible replace H := sBind H); obtain ⟨t, hA, H⟩ := H
                            | (with_reducible replace H := sBool H); obtain ⟨c, H⟩ | ⟨c, H⟩ := H
                            | (with_reducible replace H := sEq H); obtain ⟨c, c', H⟩ | ⟨c, c', H⟩ := H
                            | (with_reducible replace H := sEqL H); obtain ⟨c, H⟩ | ⟨c, H⟩ := H
                            | (with_reducible replace H := sIte H); obtain ⟨c, H⟩ | ⟨c, H⟩ := H
                            | (with_reducible replace H := sAnd H); obtain ⟨c, H⟩ | ⟨c, H⟩ := H
                            | (with_reducible replace H := sOr H); obtain ⟨c, H⟩ | ⟨c, H⟩ := H
                           all_goals cases H
                           all_goals (replace H0 := Hold.mk H0; have H := H0; clear H0)
                           all_goals (
                            replace H := H.out
                            apply BZ.out
                            exact BZ.go)
                         · (try simp only [List.length_append, List.length_cons, List.length_nil, Nat.zero_add, beq_dec, bne_dec, Bool.or_eq_true, Bool.and_eq_true, Bool.not_eq_true', decide_eq_true_eq, decide_eq_false_iff_not, ite_or', ite_and', ite_not', ge_iff_le, gt_iff_lt] at H)
                           repeat' first
                            | (with_reducible replace H := sBindA H (by assumption))
                            | (with_reducible replace H := sBindS H)
                            | (with_reducible replace H := sBind H); obtain ⟨t, hA, H⟩ := H
                            | (with_reducible replace H := sBool H); obtain ⟨c, H⟩ | ⟨c, H⟩ := H
                            | (with_reducible replace H := sEq H); obtain ⟨c, c', H⟩ | ⟨c, c', H⟩ := H
                            | (with_reducible replace H := sEqL H); obtain ⟨c, H⟩ | ⟨c, H⟩ := H
                            | (with_reducible replace H := sIte H); obtain ⟨c, H⟩ | ⟨c, H⟩ := H
                            | (with_reducible replace H := sAnd H); obtain ⟨c, H⟩ | ⟨c, H⟩ := H
                            | (with_reducible replace H := sOr H); obtain ⟨c, H⟩ | ⟨c, H⟩ := H
                           all_goals cases H
                           all_goals (replace H0 := Hold.mk H0; have H := H0; clear H0)
                           all_goals (
                            have m0 : LM 1 111 [5] (fun X => ∃ x300000, ∃ x300001, ∃ x300002, ∃ x300003, ∃ x300004, ∃ x300005, ∃ q, X = ⟨[(5, .pl 0 none 0)], [(0, .mem [.sc (.int .i64 x300000), .sc (.int .i64 x300001), .sc (.string x300002), .sc (.string x300003), .sc (.string x300004), .sl none 1 (List.flatMap eI x300005)])]⟩ ∧ q ≤ kq5 ∧ spec_NodeOk.j5 q x300000 x300001 x300002 x300003 x300004 x300005 = some r) := ⟨⟩
                            apply late
                            · intro pa0
                              apply late
                              · intro pb0
                                apply BZc.out
                                exact BZc.go
                              · clear H
                                intro X hJ
                                obtain ⟨x300000, x300001, x300002, x300003, x300004, x300005, q6, rfl, hq, H⟩ := hJ
                                cases q6 with
                                | zero => (simp only [spec_NodeOk.j5] at H; cases H)
                                | succ kq6 =>
                                 simp only [spec_NodeOk.j5] at H
                                 apply BZ.out
                                 exact BZ.go
                            · intro hj0
                              replace H := H.out
                              apply BZ.out
                              exact BZ.go)
                    · intro hj0
                      replace H := H.out
                      apply BZ.out
                      exact BZ.go
               · intro hj0
                 replace H := H.out
                 apply BZ.out
                 exact BZ.go)
       · intro hj0
         replace H := H.out
         apply BZ.out
         exact BZ.go)
end Go.Proofs.Ytmbkcbgbienjoaa.PFnExactShared
