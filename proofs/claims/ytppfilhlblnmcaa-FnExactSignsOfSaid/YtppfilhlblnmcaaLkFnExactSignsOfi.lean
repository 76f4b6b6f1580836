/- Functions' walks: each computes what its plain form says. No condition. -/
import Derived.Test.YtppfilhlblnmcaaLkFnExactSignsOfh
import Derived.Test.YtppfilhlblnmcaaLkFnExactSignsOfd
import Derived.Test.YtppfilhlblnmcaaLkFnExactSignsOfe
import Derived.Test.YtppfilhlblnmcaaLkFnExactSignsOfg
open Go Go.Proofs Go.Proofs.Ytppfilhlblnmcaa.Abs
namespace Go.Proofs.Ytppfilhlblnmcaa.PFnExactSignsOf
open Go.RowKit Go.Proofs.YtppfilhlblnmcaaW.PrintWords Go.Proofs.YtppfilhlblnmcaaW.PrintLast Go.Proofs.YtppfilhlblnmcaaW.PrintMore
set_option linter.unusedVariables false
set_option linter.unusedSimpArgs false
set_option maxRecDepth 100000
attribute [local irreducible] evK evQ evM evF evW evH goE goK goKD goQ goQD goD Ok ACalls
set_option maxHeartbeats 8000000 in
theorem laws_FnExactSignsOf.link {k : Nat} {a0 : ByteArray} {r : Bool} (H : laws_FnExactSignsOf.f k a0 = some r) : ACalls Try.prog 3 [.dat false [.sc (.string a0)]] [(false, [.sc (.bool r)])] [.dat false [.sc (.string a0)]] := by
 refine ACalls.en Try.func3 Try.ntmps3 .go .go .go .go ?_
 intro C F hC hP hF hn (hx : C.fx = [])
 have kp : KL [0, 2, 3, 4, 5, 6, 7, 8, 9, 10, 13, 32, 40, 43, 57, 62, 65] := ⟨⟩
 have kr : KR #[.tmp 2] := ⟨⟩
 have c0 := Hold.mk @impl_SignsOf.link
 have c1 := Hold.mk @laws_eqSignS.link
 have c2 := Hold.mk @laws_heldSignS.link
 have c3 := Hold.mk @spec_SignsOf.link
 have d0 := Hold.mk @laws_markSignS.link
 simp only [laws_FnExactSignsOf.f] at H
 replace H := Hold.mk H
 obtain ⟨H, H0⟩ | ⟨H, H0⟩ := sIteU H.out
 · (try simp only [List.length_append, List.length_cons, List.length_nil, Nat.zero_add, beq_dec, bne_dec, Bool.or_eq_true, Bool.and_eq_true, Bool.not_eq_true', decide_eq_true_eq, decide_eq_false_iff_not, ite_or', ite_and', ite_not', ge_iff_le, gt_iff_lt] at H)
   repeat' first
    | (with_reducible replace H := sBindA H (by assumption))
    | (with_reducible replace H := sBindS H)
    | (with_reducible replace H := sBind H); obtain ⟨t, hA, H⟩ := H
    | (with_reducible replace H := sBool H); obtain ⟨c, H⟩ | ⟨c, H⟩ := H
    | (with_reducible replace H := sEq H); obtain ⟨c, c', H⟩ | ⟨c, c', H⟩ := H
    | (with_reducible replace H := sEqL H); obtain ⟨c, H⟩ | ⟨c, H⟩ := H
    | (with_reducible replace H := sIte H); obtain ⟨c, H⟩ | ⟨c, H⟩ := H
    | (with_reducible replace H := sAnd H); obtain ⟨c, H⟩ | ⟨c, H⟩ := H
    | (with_reducible replace H := sOr H); obtain ⟨c, H⟩ | ⟨c, H⟩ := H
   all_goals cases H
   all_goals (replace H0 := Hold.mk H0; have H := H0; clear H0)
   all_goals (
    replace H := H.out
    apply BZm.out
    exact BZm.go)
 · (try simp only [List.length_append, List.length_cons, List.length_nil, Nat.zero_add, beq_dec, bne_dec, Bool.or_eq_true, Bool.and_eq_true, Bool.not_eq_true', decide_eq_true_eq, decide_eq_false_iff_not, ite_or', ite_and', ite_not', ge_iff_le, gt_iff_lt] at H)
   repeat' first
    | (with_reducible replace H := sBindA H (by assumption))
    | (with_reducible replace H := sBindS H)
    | (with_reducible replace H := sBind H); obtain ⟨t, hA, H⟩ := H
    | (with_reducible replace H := sBool H); obtain ⟨c, H⟩ | ⟨c, H⟩ := H
    | (with_reducible replace H := sEq H); obtain ⟨c, c', H⟩ | ⟨c, c', H⟩ := H
    | (with_reducible replace H := sEqL H); obtain ⟨c, H⟩ | ⟨c, H⟩ := H
    | (with_reducible replace H := sIte H); obtain ⟨c, H⟩ | ⟨c, H⟩ := H
    | (with_reducible replace H := sAnd H); obtain ⟨c, H⟩ | ⟨c, H⟩ := H
    | (with_reducible replace H := sOr H); obtain ⟨c, H⟩ | ⟨c, H⟩ := H
   all_goals cases H
   all_goals (replace H0 := Hold.mk H0; have H := H0; clear H0)
   all_goals (
    first
     | (with_reducible replace H := Hold.mk (sBindA H.out (by assumption)))
     | (have H1 := sBind H.out; clear H; obtain ⟨t, hA, H⟩ := H1; replace H := Hold.mk H)
    first
     | (with_reducible replace H := Hold.mk (sBindA H.out (by assumption)))
     | (have H1 := sBind H.out; clear H; obtain ⟨t, hA, H⟩ := H1; replace H := Hold.mk H)
    have m0 : LM 2 5 [0, 3, 4, 5, 32] (fun X => ∃ x0, ∃ x3, ∃ x4, ∃ x5, ∃ x32, ∃ q, X = ⟨[(0, .dat false [.sc (.string x0)]), (3, .bor 0 none 0 1 false), (4, .dat false [.sc (.int .i64 x4)]), (5, .bor 1 none 0 1 false), (32, .dat false [.sc (.bool x32)])], [(0, .vir [.sl (some 0) 4 (List.flatMap e50 x3)]), (1, .vir [.sl (some 0) 4 (List.flatMap e50 x5)])]⟩ ∧ q ≤ k ∧ laws_FnExactSignsOf.j0 q x0 x3 x4 x5 x32 = some r) := ⟨⟩
    apply late
    · intro pa0
      apply late
      · intro pb0
        apply BZcm.out
        exact BZcm.go
      · clear H
        intro X hJ
        obtain ⟨x0, x3, x4, x5, x32, q1, rfl, hq, H⟩ := hJ
        cases q1 with
        | zero => (simp only [laws_FnExactSignsOf.j0] at H; cases H)
        | succ kq1 =>
         simp only [laws_FnExactSignsOf.j0] at H
         replace H := Hold.mk H
         obtain ⟨H, H0⟩ | ⟨H, H0⟩ := sIteU H.out
         · (try simp only [List.length_append, List.length_cons, List.length_nil, Nat.zero_add, beq_dec, bne_dec, Bool.or_eq_true, Bool.and_eq_true, Bool.not_eq_true', decide_eq_true_eq, decide_eq_false_iff_not, ite_or', ite_and', ite_not', ge_iff_le, gt_iff_lt] at H)
           repeat' first
            | (with_reducible replace H := sBindA H (by assumption))
            | (with_reducible replace H := sBindS H)
            | (with_reducible replace H := sBind H); obtain ⟨t, hA, H⟩ := H
            | (with_reducible replace H := sBool H); obtain ⟨c, H⟩ | ⟨c, H⟩ := H
            | (with_reducible replace H := sEq H); obtain ⟨c, c', H⟩ | ⟨c, c', H⟩ := H
            | (with_reducible replace H := sEqL H); obtain ⟨c, H⟩ | ⟨c, H⟩ := H
            | (with_reducible replace H := sIte H); obtain ⟨c, H⟩ | ⟨c, H⟩ := H
            | (with_reducible replace H := sAnd H); obtain ⟨c, H⟩ | ⟨c, H⟩ := H
            | (with_reducible replace H := sOr H); obtain ⟨c, H⟩ | ⟨c, H⟩ := H
           all_goals cases H
           all_goals (replace H0 := Hold.mk H0; have H := H0; clear H0)
           all_goals (
            replace H := H.out
            apply BZm.out
            exact BZm.go)
         · (try simp only [List.length_append, List.length_cons, List.length_nil, Nat.zero_add, beq_dec, bne_dec, Bool.or_eq_true, Bool.and_eq_true, Bool.not_eq_true', decide_eq_true_eq, decide_eq_false_iff_not, ite_or', ite_and', ite_not', ge_iff_le, gt_iff_lt] at H)
           repeat' first
            | (with_reducible replace H := sBindA H (by assumption))
            | (with_reducible replace H := sBindS H)
            | (with_reducible replace H := sBind H); obtain ⟨t, hA, H⟩ := H
            | (with_reducible replace H := sBool H); obtain ⟨c, H⟩ | ⟨c, H⟩ := H
            | (with_reducible replace H := sEq H); obtain ⟨c, c', H⟩ | ⟨c, c', H⟩ := H
            | (with_reducible replace H := sEqL H); obtain ⟨c, H⟩ | ⟨c, H⟩ := H
            | (with_reducible replace H := sIte H); obtain ⟨c, H⟩ | ⟨c, H⟩ := H
            | (with_reducible replace H := sAnd H); obtain ⟨c, H⟩ | ⟨c, H⟩ := H
            | (with_reducible replace H := sOr H); obtain ⟨c, H⟩ | ⟨c, H⟩ := H
           all_goals cases H
           all_goals (replace H0 := Hold.mk H0; have H := H0; clear H0)
           all_goals (
            first
             | (with_reducible replace H := Hold.mk (sBindA H.out (by assumption)))
             | (have H1 := sBind H.out; clear H; obtain ⟨t, hA, H⟩ := H1; replace H := Hold.mk H)
            first
             | (with_reducible replace H := Hold.mk (sBindA H.out (by assumption)))
             | (have H1 := sBind H.out; clear H; obtain ⟨t, hA, H⟩ := H1; replace H := Hold.mk H)
            obtain ⟨H, H0⟩ | ⟨H, H0⟩ := sIteU H.out
            · (try simp only [List.length_append, List.length_cons, List.length_nil, Nat.zero_add, beq_dec, bne_dec, Bool.or_eq_true, Bool.and_eq_true, Bool.not_eq_true', decide_eq_true_eq, decide_eq_false_iff_not, ite_or', ite_and', ite_not', ge_iff_le, gt_iff_lt] at H)
              repeat' first
               | (with_reducible replace H := sBindA H (by assumption))
               | (with_reducible replace H := sBindS H)
               | (with_reducible replace H := sBind H); obtain ⟨t, hA, H⟩ := H
               | (with_reducible replace H := sBool H); obtain ⟨c, H⟩ | ⟨c, H⟩ := H
               | (with_reducible replace H := sEq H); obtain ⟨c, c', H⟩ | ⟨c, c', H⟩ := H
               | (with_reducible replace H := sEqL H); obtain ⟨c, H⟩ | ⟨c, H⟩ := H
               | (with_reducible replace H := sIte H); obtain ⟨c, H⟩ | ⟨c, H⟩ := H
               | (with_reducible replace H := sAnd H); obtain ⟨c, H⟩ | ⟨c, H⟩ := H
               | (with_reducible replace H := sOr H); obtain ⟨c, H⟩ | ⟨c, H⟩ := H
              all_goals cases H
              all_goals (replace H0 := Hold.mk H0; have H := H0; clear H0)
              all_goals (
               replace H := H.out
               apply BZm.out
               exact BZm.go)
            · (try simp only [List.length_append, List.length_cons, List.length_nil, Nat.zero_add, beq_dec, bne_dec, Bool.or_eq_true, Bool.and_eq_true, Bool.not_eq_true', decide_eq_true_eq, decide_eq_false_iff_not, ite_or', ite_and', ite_not', ge_iff_le, gt_iff_lt] at H)
              repeat' first
               | (with_reducible replace H := sBindA H (by assumption))
               | (with_reducible replace H := sBindS H)
               | (with_reducible replace H := sBind H); obtain ⟨t, hA, H⟩ := H
               | (with_reducible replace H := sBool H); obtain ⟨c, H⟩ | ⟨c, H⟩ := H
               | (with_reducible replace H := sEq H); obtain ⟨c, c', H⟩ | ⟨c, c', H⟩ := H
               | (with_reducible replace H := sEqL H); obtain ⟨c, H⟩ | ⟨c, H⟩ := H
               | (with_reducible replace H := sIte H); obtain ⟨c, H⟩ | ⟨c, H⟩ := H
               | (with_reducible replace H := sAnd H); obtain ⟨c, H⟩ | ⟨c, H⟩ := H
               | (with_reducible replace H := sOr H); obtain ⟨c, H⟩ | ⟨c, H⟩ := H
              all_goals cases H
              all_goals (replace H0 := Hold.mk H0; have H := H0; clear H0)
              all_goals (
               obtain ⟨H, H0⟩ | ⟨H, H0⟩ := sIteU H.out
               · (try simp only [List.length_append, List.length_cons, List.length_nil, Nat.zero_add, beq_dec, bne_dec, Bool.or_eq_true, Bool.and_eq_true, Bool.not_eq_true', decide_eq_true_eq, decide_eq_false_iff_not, ite_or', ite_and', ite_not', ge_iff_le, gt_iff_lt] at H)
                 repeat' first
                  | (with_reducible replace H := sBindA H (by assumption))
                  | (with_reducible replace H := sBindS H)
                  | (with_reducible replace H := sBind H); obtain ⟨t, hA, H⟩ := H
                  | (with_reducible replace H := sBool H); obtain ⟨c, H⟩ | ⟨c, H⟩ := H
                  | (with_reducible replace H := sEq H); obtain ⟨c, c', H⟩ | ⟨c, c', H⟩ := H
                  | (with_reducible replace H := sEqL H); obtain ⟨c, H⟩ | ⟨c, H⟩ := H
                  | (with_reducible replace H := sIte H); obtain ⟨c, H⟩ | ⟨c, H⟩ := H
                  | (with_reducible replace H := sAnd H); obtain ⟨c, H⟩ | ⟨c, H⟩ := H
                  | (with_reducible replace H := sOr H); obtain ⟨c, H⟩ | ⟨c, H⟩ := H
                 all_goals cases H
                 all_goals (replace H0 := Hold.mk H0; have H := H0; clear H0)
                 all_goals (
                  first
                   | (with_reducible replace H := Hold.mk (sBindA H.out (by assumption)))
                   | (have H1 := sBind H.out; clear H; obtain ⟨t, hA, H⟩ := H1; replace H := Hold.mk H)
                  have m0 : LM 2 16 [5, 7, 57] (fun X => ∃ x5, ∃ x7, ∃ x57, ∃ q, X = ⟨[(5, .bor 0 none 0 1 false), (7, .dat false [.sc (.int .i64 x7)]), (57, .dat false [.sc (.bool x57)])], [(0, .vir [.sl (some 0) 4 (List.flatMap e50 x5)])]⟩ ∧ q ≤ kq1 ∧ laws_FnExactSignsOf.j1 q x5 x7 x57 = some r) := ⟨⟩
                  apply late
                  · intro pa0
                    apply late
                    · intro pb0
                      apply BZcm.out
                      exact BZcm.go
                    · clear H
                      intro X hJ
                      obtain ⟨x5, x7, x57, q2, rfl, hq, H⟩ := hJ
                      cases q2 with
                      | zero => (simp only [laws_FnExactSignsOf.j1] at H; cases H)
                      | succ kq2 =>
                       simp only [laws_FnExactSignsOf.j1] at H
                       apply BZm.out
                       exact BZm.go
                  · intro hj0
                    replace H := H.out
                    apply BZm.out
                    exact BZm.go)
               · (try simp only [List.length_append, List.length_cons, List.length_nil, Nat.zero_add, beq_dec, bne_dec, Bool.or_eq_true, Bool.and_eq_true, Bool.not_eq_true', decide_eq_true_eq, decide_eq_false_iff_not, ite_or', ite_and', ite_not', ge_iff_le, gt_iff_lt] at H)
                 repeat' first
                  | (with_reducible replace H := sBindA H (by assumption))
                  | (with_reducible replace H := sBindS H)
                  | (with_reducible replace H := sBind H); obtain ⟨t, hA, H⟩ := H
                  | (with_reducible replace H := sBool H); obtain ⟨c, H⟩ | ⟨c, H⟩ := H
                  | (with_reducible replace H := sEq H); obtain ⟨c, c', H⟩ | ⟨c, c', H⟩ := H
                  | (with_reducible replace H := sEqL H); obtain ⟨c, H⟩ | ⟨c, H⟩ := H
                  | (with_reducible replace H := sIte H); obtain ⟨c, H⟩ | ⟨c, H⟩ := H
                  | (with_reducible replace H := sAnd H); obtain ⟨c, H⟩ | ⟨c, H⟩ := H
                  | (with_reducible replace H := sOr H); obtain ⟨c, H⟩ | ⟨c, H⟩ := H
                 all_goals cases H
                 all_goals (replace H0 := Hold.mk H0; have H := H0; clear H0)
                 all_goals (
                  replace H := H.out
                  apply BZm.out
                  exact BZm.go)))
    · intro hj0
      replace H := H.out
      apply BZm.out
      exact BZm.go)
end Go.Proofs.Ytppfilhlblnmcaa.PFnExactSignsOf
