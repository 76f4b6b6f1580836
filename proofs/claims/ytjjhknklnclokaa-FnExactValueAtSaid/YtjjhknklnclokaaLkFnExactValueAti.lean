/- Functions' walks: each computes what its plain form says. No condition. -/
import Derived.Test.YtjjhknklnclokaaLkFnExactValueAth
import Derived.Test.YtjjhknklnclokaaLkFnExactValueAtd
import Derived.Test.YtjjhknklnclokaaLkFnExactValueAtg
open Go Go.Proofs Go.Proofs.Ytjjhknklnclokaa.Abs
namespace Go.Proofs.Ytjjhknklnclokaa.PFnExactValueAt
open Go.RowKit Go.Proofs.YtjjhknklnclokaaW.PrintWords Go.Proofs.YtjjhknklnclokaaW.PrintLast Go.Proofs.YtjjhknklnclokaaW.PrintMore
set_option linter.unusedVariables false
set_option linter.unusedSimpArgs false
set_option maxRecDepth 100000
attribute [local irreducible] evK evQ evM evF evW evH goE goK goKD goQ goQD goD Ok ACalls
set_option maxHeartbeats 8000000 in
theorem impl_Calc.link {k : Nat} {a0 : Int} {a1 : Int} {a2 : Int} {r : Int × Int} (H : impl_Calc.f k a0 a1 a2 = some r) : ACalls Try.prog 50 [.dat false [.sc (.int .i64 a0)], .dat false [.sc (.int .i64 a1)], .dat false [.sc (.int .i64 a2)]] [(false, [.sc (.int .i64 r.1)]), (false, [.sc (.int .i64 r.2)])] [.dat false [.sc (.int .i64 a0)], .dat false [.sc (.int .i64 a1)], .dat false [.sc (.int .i64 a2)]] := by
 refine ACalls.en Try.func50 Try.ntmps50 .go .go .go .go ?_
 intro C F hC hP hF hn (hx : C.fx = [])
 have kp : KL [0, 1, 2, 6, 7, 8, 21, 31, 32, 33, 38, 43, 48, 53, 58, 64, 70, 79, 90] := ⟨⟩
 have kr : KR #[.tmp 6, .tmp 7] := ⟨⟩
 have c0 := Hold.mk @impl_within.link
 have c1 := Hold.mk @impl_ValOk.link
 have c2 := Hold.mk @impl_truth.link
 simp only [impl_Calc.f] at H
 replace H := Hold.mk H
 have m0 : LM 2 1 [0, 1, 2, 21] (fun X => ∃ x0, ∃ x1, ∃ x2, ∃ x21, ∃ q, X = ⟨[(0, .dat false [.sc (.int .i64 x0)]), (1, .dat false [.sc (.int .i64 x1)]), (2, .dat false [.sc (.int .i64 x2)]), (21, .dat false [.sc (.bool x21)])], []⟩ ∧ q ≤ k ∧ impl_Calc.j0 q x0 x1 x2 x21 = some r) := ⟨⟩
 apply late
 · intro pa0
   apply late
   · intro pb0
     apply BZc.out
     exact BZc.go
   · clear H
     intro X hJ
     obtain ⟨x0, x1, x2, x21, q1, rfl, hq, H⟩ := hJ
     cases q1 with
     | zero => (simp only [impl_Calc.j0] at H; cases H)
     | succ kq1 =>
      simp only [impl_Calc.j0] at H
      replace H := Hold.mk H
      obtain ⟨H, H0⟩ | ⟨H, H0⟩ := sIteU H.out
      · (try simp only [List.length_append, List.length_cons, List.length_nil, Nat.zero_add, beq_dec, bne_dec, Bool.or_eq_true, Bool.and_eq_true, Bool.not_eq_true', decide_eq_true_eq, decide_eq_false_iff_not, ite_or', ite_and', ite_not', ge_iff_le, gt_iff_lt] at H)
        repeat' first
         | (with_reducible replace H := sBindA H (by assumption))
         | (with_reducible replace H := sBindS H)
         | (with_reducible replace H := sBind H); obtain ⟨t, hA, H⟩ := H
         | (with_reducible replace H := sBool H); obtain ⟨c, H⟩ | ⟨c, H⟩ := H
         | (with_reducible replace H := sEq H); obtain ⟨c, c', H⟩ | ⟨c, c', H⟩ := H
         | (with_reducible replace H := sEqL H); obtain ⟨c, H⟩ | ⟨c, H⟩ := H
         | (with_reducible replace H := sIte H); obtain ⟨c, H⟩ | ⟨c, H⟩ := H
         | (with_reducible replace H := sAnd H); obtain ⟨c, H⟩ | ⟨c, H⟩ := H
         | (with_reducible replace H := sOr H); obtain ⟨c, H⟩ | ⟨c, H⟩ := H
        all_goals cases H
        all_goals (replace H0 := Hold.mk H0; have H := H0; clear H0)
        all_goals (
         replace H := H.out
         apply BZ.out
         exact BZ.go)
      · (try simp only [List.length_append, List.length_cons, List.length_nil, Nat.zero_add, beq_dec, bne_dec, Bool.or_eq_true, Bool.and_eq_true, Bool.not_eq_true', decide_eq_true_eq, decide_eq_false_iff_not, ite_or', ite_and', ite_not', ge_iff_le, gt_iff_lt] at H)
        repeat' first
         | (with_reducible replace H := sBindA H (by assumption))
         | (with_reducible replace H := sBindS H)
         | (with_reducible replace H := sBind H); obtain ⟨t, hA, H⟩ := H
         | (with_reducible replace H := sBool H); obtain ⟨c, H⟩ | ⟨c, H⟩ := H
         | (with_reducible replace H := sEq H); obtain ⟨c, c', H⟩ | ⟨c, c', H⟩ := H
         | (with_reducible replace H := sEqL H); obtain ⟨c, H⟩ | ⟨c, H⟩ := H
         | (with_reducible replace H := sIte H); obtain ⟨c, H⟩ | ⟨c, H⟩ := H
         | (with_reducible replace H := sAnd H); obtain ⟨c, H⟩ | ⟨c, H⟩ := H
         | (with_reducible replace H := sOr H); obtain ⟨c, H⟩ | ⟨c, H⟩ := H
        all_goals cases H
        all_goals (replace H0 := Hold.mk H0; have H := H0; clear H0)
        all_goals (
         have m0 : LM 2 3 [0, 1, 2, 31] (fun X => ∃ x0, ∃ x1, ∃ x2, ∃ x31, ∃ q, X = ⟨[(0, .dat false [.sc (.int .i64 x0)]), (1, .dat false [.sc (.int .i64 x1)]), (2, .dat false [.sc (.int .i64 x2)]), (31, .dat false [.sc (.bool x31)])], []⟩ ∧ q ≤ kq1 ∧ impl_Calc.j1 q x0 x1 x2 x31 = some r) := ⟨⟩
         apply late
         · intro pa0
           apply late
           · intro pb0
             apply BZc.out
             exact BZc.go
           · clear H
             intro X hJ
             obtain ⟨x0, x1, x2, x31, q2, rfl, hq, H⟩ := hJ
             cases q2 with
             | zero => (simp only [impl_Calc.j1] at H; cases H)
             | succ kq2 =>
              simp only [impl_Calc.j1] at H
              apply BZ.out
              exact BZ.go
         · intro hj0
           replace H := H.out
           apply BZ.out
           exact BZ.go)
 · intro hj0
   replace H := H.out
   apply BZ.out
   exact BZ.go
end Go.Proofs.Ytjjhknklnclokaa.PFnExactValueAt
