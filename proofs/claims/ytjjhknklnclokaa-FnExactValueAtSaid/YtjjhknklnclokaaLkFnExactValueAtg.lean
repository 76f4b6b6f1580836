/- Functions' walks: each computes what its plain form says. No condition. -/
import Derived.Test.YtjjhknklnclokaaLkFnExactValueAth
import Derived.Test.YtjjhknklnclokaaLkFnExactValueAtd
import Derived.Test.YtjjhknklnclokaaLkFnExactValueAte
import Derived.Test.YtjjhknklnclokaaLkFnExactValueAtf
open Go Go.Proofs Go.Proofs.Ytjjhknklnclokaa.Abs
namespace Go.Proofs.Ytjjhknklnclokaa.PFnExactValueAt
open Go.RowKit Go.Proofs.YtjjhknklnclokaaW.PrintWords Go.Proofs.YtjjhknklnclokaaW.PrintLast Go.Proofs.YtjjhknklnclokaaW.PrintMore
set_option linter.unusedVariables false
set_option linter.unusedSimpArgs false
set_option maxRecDepth 100000
attribute [local irreducible] evK evQ evM evF evW evH goE goK goKD goQ goQD goD Ok ACalls
set_option maxHeartbeats 8000000 in
theorem impl_NodeOk.link {k : Nat} {l0_0 : List (S57)} {l0_1 : List (S86)} {l0_2 : List (S88)} {a1 : Int} {r : Bool} (H : impl_NodeOk.f k l0_0 l0_1 l0_2 a1 = some r) : ACalls Try.prog 72 [.dat true [.sl none 6 (List.flatMap e57 l0_0), .sl none 4 (List.flatMap e86 l0_1), .sl none 4 (List.flatMap e88 l0_2)], .dat false [.sc (.int .i64 a1)]] [(false, [.sc (.bool r)])] [.dat true [.sl none 6 (List.flatMap e57 l0_0), .sl none 4 (List.flatMap e86 l0_1), .sl none 4 (List.flatMap e88 l0_2)], .dat false [.sc (.int .i64 a1)]] := by
 refine ACalls.en Try.func72 Try.ntmps72 .go .go .go .go ?_
 intro C F hC hP hF hn (hx : C.fx = [])
 have kp : KL [0, 1, 2, 4, 5, 6, 7, 11, 26, 28, 29, 30, 31, 47] := ⟨⟩
 have kr : KR #[.tmp 4] := ⟨⟩
 have c0 := Hold.mk @impl_within.link
 have c1 := Hold.mk @impl_isNode.link
 have c2 := Hold.mk @slices_Contains_int_int.link
 have c3 := Hold.mk @impl_kidsOk.link
 have c4 := Hold.mk @impl_namesOk.link
 simp only [impl_NodeOk.f] at H
 replace H := Hold.mk H
 first
  | (with_reducible replace H := Hold.mk (sBindA H.out (by assumption)))
  | (have H1 := sBind H.out; clear H; obtain ⟨t, hA, H⟩ := H1; replace H := Hold.mk H)
 obtain ⟨H, H0⟩ | ⟨H, H0⟩ := sIteU H.out
 · (try simp only [List.length_append, List.length_cons, List.length_nil, Nat.zero_add, beq_dec, bne_dec, Bool.or_eq_true, Bool.and_eq_true, Bool.not_eq_true', decide_eq_true_eq, decide_eq_false_iff_not, ite_or', ite_and', ite_not', ge_iff_le, gt_iff_lt] at H)
   repeat' first
    | (with_reducible replace H := sBindA H (by assumption))
    | (with_reducible replace H := sBindS H)
    | (with_reducible replace H := sBind H); obtain ⟨t, hA, H⟩ := H
    | (with_reducible replace H := sBool H); obtain ⟨c, H⟩ | ⟨c, H⟩ := H
    | (with_reducible replace H := sEq H); obtain ⟨c, c', H⟩ | ⟨c, c', H⟩ := H
    | (with_reducible replace H := sEqL H); obtain ⟨c, H⟩ | ⟨c, H⟩ := H
    | (with_reducible replace H := sIte H); obtain ⟨c, H⟩ | ⟨c, H⟩ := H
    | (with_reducible replace H := sAnd H); obtain ⟨c, H⟩ | ⟨c, H⟩ := H
    | (with_reducible replace H := sOr H); obtain ⟨c, H⟩ | ⟨c, H⟩ := H
   all_goals cases H
   all_goals (replace H0 := Hold.mk H0; have H := H0; clear H0)
   all_goals (
    obtain ⟨H, H0⟩ | ⟨H, H0⟩ := sIteU H.out
    · (try simp only [List.length_append, List.length_cons, List.length_nil, Nat.zero_add, beq_dec, bne_dec, Bool.or_eq_true, Bool.and_eq_true, Bool.not_eq_true', decide_eq_true_eq, decide_eq_false_iff_not, ite_or', ite_and', ite_not', ge_iff_le, gt_iff_lt] at H)
      repeat' first
       | (with_reducible replace H := sBindA H (by assumption))
       | (with_reducible replace H := sBindS H)
       | (with_reducible replace H := sBind H); obtain ⟨t, hA, H⟩ := H
       | (with_reducible replace H := sBool H); obtain ⟨c, H⟩ | ⟨c, H⟩ := H
       | (with_reducible replace H := sEq H); obtain ⟨c, c', H⟩ | ⟨c, c', H⟩ := H
       | (with_reducible replace H := sEqL H); obtain ⟨c, H⟩ | ⟨c, H⟩ := H
       | (with_reducible replace H := sIte H); obtain ⟨c, H⟩ | ⟨c, H⟩ := H
       | (with_reducible replace H := sAnd H); obtain ⟨c, H⟩ | ⟨c, H⟩ := H
       | (with_reducible replace H := sOr H); obtain ⟨c, H⟩ | ⟨c, H⟩ := H
      all_goals cases H
      all_goals (replace H0 := Hold.mk H0; have H := H0; clear H0)
      all_goals (
       obtain ⟨H, H0⟩ | ⟨H, H0⟩ := sIteU H.out
       · (try simp only [List.length_append, List.length_cons, List.length_nil, Nat.zero_add, beq_dec, bne_dec, Bool.or_eq_true, Bool.and_eq_true, Bool.not_eq_true', decide_eq_true_eq, decide_eq_false_iff_not, ite_or', ite_and', ite_not', ge_iff_le, gt_iff_lt] at H)
         repeat' first
          | (with_reducible replace H := sBindA H (by assumption))
          | (with_reducible replace H := sBindS H)
          | (with_reducible replace H := sBind H); obtain ⟨t, hA, H⟩ := H
          | (with_reducible replace H := sBool H); obtain ⟨c, H⟩ | ⟨c, H⟩ := H
          | (with_reducible replace H := sEq H); obtain ⟨c, c', H⟩ | ⟨c, c', H⟩ := H
          | (with_reducible replace H := sEqL H); obtain ⟨c, H⟩ | ⟨c, H⟩ := H
          | (with_reducible replace H := sIte H); obtain ⟨c, H⟩ | ⟨c, H⟩ := H
          | (with_reducible replace H := sAnd H); obtain ⟨c, H⟩ | ⟨c, H⟩ := H
          | (with_reducible replace H := sOr H); obtain ⟨c, H⟩ | ⟨c, H⟩ := H
         all_goals cases H
         all_goals (replace H0 := Hold.mk H0; have H := H0; clear H0)
         all_goals (
          have m0 : LM 2 4 [1, 2, 5, 26] (fun X => ∃ x1, ∃ x26, ∃ x469000, ∃ x469001, ∃ x469002, ∃ x472000, ∃ x472001, ∃ x472002, ∃ x472003, ∃ x472004, ∃ x472005, ∃ q, X = ⟨[(1, .dat false [.sc (.int .i64 x1)]), (2, .pl 0 none 0), (5, .pl 1 none 0), (26, .dat false [.sc (.bool x26)])], [(0, .mem [.sl none 6 (List.flatMap e57 x469000), .sl none 4 (List.flatMap e86 x469001), .sl none 4 (List.flatMap e88 x469002)]), (1, .mem [.sc (.int .i64 x472000), .sc (.int .i64 x472001), .sc (.string x472002), .sc (.string x472003), .sc (.string x472004), .sl none 1 (List.flatMap eI x472005)])]⟩ ∧ q ≤ k ∧ impl_NodeOk.j0 q x1 x26 x469000 x469001 x469002 x472000 x472001 x472002 x472003 x472004 x472005 = some r) := ⟨⟩
          apply late
          · intro pa0
            apply late
            · intro pb0
              apply BZc.out
              exact BZc.go
            · clear H
              intro X hJ
              obtain ⟨x1, x26, x469000, x469001, x469002, x472000, x472001, x472002, x472003, x472004, x472005, q1, rfl, hq, H⟩ := hJ
              cases q1 with
              | zero => (simp only [impl_NodeOk.j0] at H; cases H)
              | succ kq1 =>
               simp only [impl_NodeOk.j0] at H
               have w0 : LJ [1, 2, 5, 28, 29, 30] (fun q X => ∃ x1, ∃ x28, ∃ x29, ∃ x30, ∃ x469000, ∃ x469001, ∃ x469002, ∃ x472000, ∃ x472001, ∃ x472002, ∃ x472003, ∃ x472004, ∃ x472005, X = ⟨[(1, .dat false [.sc (.int .i64 x1)]), (2, .pl 0 none 0), (5, .pl 1 none 0), (28, .dat false [.sl none 1 (List.flatMap eI x28)]), (29, .dat false [.sc (.int .i64 x29)]), (30, .dat false [.sc (.int .i64 x30)])], [(0, .mem [.sl none 6 (List.flatMap e57 x469000), .sl none 4 (List.flatMap e86 x469001), .sl none 4 (List.flatMap e88 x469002)]), (1, .mem [.sc (.int .i64 x472000), .sc (.int .i64 x472001), .sc (.string x472002), .sc (.string x472003), .sc (.string x472004), .sl none 1 (List.flatMap eI x472005)])]⟩ ∧ q ≤ kq1 ∧ impl_NodeOk.l0 q x1 x28 x29 x30 x469000 x469001 x469002 x472000 x472001 x472002 x472003 x472004 x472005 = some r) := ⟨⟩
               apply late
               · intro lp0
                 apply BZ.out
                 exact BZ.go
               · intro q2 X hJ ih0
                 clear H
                 obtain ⟨x1, x28, x29, x30, x469000, x469001, x469002, x472000, x472001, x472002, x472003, x472004, x472005, rfl, hq, H⟩ := hJ
                 cases q2 with
                 | zero => (simp only [impl_NodeOk.l0] at H; cases H)
                 | succ kq2 =>
                  simp only [impl_NodeOk.l0] at H
                  apply BZn.out
                  exact BZn.go
          · intro hj0
            replace H := H.out
            apply BZ.out
            exact BZ.go)
       · (try simp only [List.length_append, List.length_cons, List.length_nil, Nat.zero_add, beq_dec, bne_dec, Bool.or_eq_true, Bool.and_eq_true, Bool.not_eq_true', decide_eq_true_eq, decide_eq_false_iff_not, ite_or', ite_and', ite_not', ge_iff_le, gt_iff_lt] at H)
         repeat' first
          | (with_reducible replace H := sBindA H (by assumption))
          | (with_reducible replace H := sBindS H)
          | (with_reducible replace H := sBind H); obtain ⟨t, hA, H⟩ := H
          | (with_reducible replace H := sBool H); obtain ⟨c, H⟩ | ⟨c, H⟩ := H
          | (with_reducible replace H := sEq H); obtain ⟨c, c', H⟩ | ⟨c, c', H⟩ := H
          | (with_reducible replace H := sEqL H); obtain ⟨c, H⟩ | ⟨c, H⟩ := H
          | (with_reducible replace H := sIte H); obtain ⟨c, H⟩ | ⟨c, H⟩ := H
          | (with_reducible replace H := sAnd H); obtain ⟨c, H⟩ | ⟨c, H⟩ := H
          | (with_reducible replace H := sOr H); obtain ⟨c, H⟩ | ⟨c, H⟩ := H
         all_goals cases H
         all_goals (replace H0 := Hold.mk H0; have H := H0; clear H0)
         all_goals (
          cases H.out))
    · (try simp only [List.length_append, List.length_cons, List.length_nil, Nat.zero_add, beq_dec, bne_dec, Bool.or_eq_true, Bool.and_eq_true, Bool.not_eq_true', decide_eq_true_eq, decide_eq_false_iff_not, ite_or', ite_and', ite_not', ge_iff_le, gt_iff_lt] at H)
      repeat' first
       | (with_reducible replace H := sBindA H (by assumption))
       | (with_reducible replace H := sBindS H)
       | (with_reducible replace H := sBind H); obtain ⟨t, hA, H⟩ := H
       | (with_reducible replace H := sBool H); obtain ⟨c, H⟩ | ⟨c, H⟩ := H
       | (with_reducible replace H := sEq H); obtain ⟨c, c', H⟩ | ⟨c, c', H⟩ := H
       | (with_reducible replace H := sEqL H); obtain ⟨c, H⟩ | ⟨c, H⟩ := H
       | (with_reducible replace H := sIte H); obtain ⟨c, H⟩ | ⟨c, H⟩ := H
       | (with_reducible replace H := sAnd H); obtain ⟨c, H⟩ | ⟨c, H⟩ := H
       | (with_reducible replace H := sOr H); obtain ⟨c, H⟩ | ⟨c, H⟩ := H
      all_goals cases H
      all_goals (replace H0 := Hold.mk H0; have H := H0; clear H0)
      all_goals (
       cases H.out))
 · (try simp only [List.length_append, List.length_cons, List.length_nil, Nat.zero_add, beq_dec, bne_dec, Bool.or_eq_true, Bool.and_eq_true, Bool.not_eq_true', decide_eq_true_eq, decide_eq_false_iff_not, ite_or', ite_and', ite_not', ge_iff_le, gt_iff_lt] at H)
   repeat' first
    | (with_reducible replace H := sBindA H (by assumption))
    | (with_reducible replace H := sBindS H)
    | (with_reducible replace H := sBind H); obtain ⟨t, hA, H⟩ := H
    | (with_reducible replace H := sBool H); obtain ⟨c, H⟩ | ⟨c, H⟩ := H
    | (with_reducible replace H := sEq H); obtain ⟨c, c', H⟩ | ⟨c, c', H⟩ := H
    | (with_reducible replace H := sEqL H); obtain ⟨c, H⟩ | ⟨c, H⟩ := H
    | (with_reducible replace H := sIte H); obtain ⟨c, H⟩ | ⟨c, H⟩ := H
    | (with_reducible replace H := sAnd H); obtain ⟨c, H⟩ | ⟨c, H⟩ := H
    | (with_reducible replace H := sOr H); obtain ⟨c, H⟩ | ⟨c, H⟩ := H
   all_goals cases H
   all_goals (replace H0 := Hold.mk H0; have H := H0; clear H0)
   all_goals (
    replace H := H.out
    apply BZ.out
    exact BZ.go)
set_option maxHeartbeats 8000000 in
theorem impl_deeps.link {k : Nat} {l0_0 : List (S57)} {l0_1 : List (S86)} {l0_2 : List (S88)} {a1 : Int} {r : List Int} (H : impl_deeps.f k l0_0 l0_1 l0_2 a1 = some r) : ACalls Try.prog 63 [.dat true [.sl none 6 (List.flatMap e57 l0_0), .sl none 4 (List.flatMap e86 l0_1), .sl none 4 (List.flatMap e88 l0_2)], .dat false [.sc (.int .i64 a1)]] [(false, [.sl (some 0) 1 (List.flatMap eI r)])] [.dat true [.sl none 6 (List.flatMap e57 l0_0), .sl none 4 (List.flatMap e86 l0_1), .sl none 4 (List.flatMap e88 l0_2)], .dat false [.sc (.int .i64 a1)]] := by
 refine ACalls.en Try.func63 Try.ntmps63 .go .go .go .go ?_
 intro C F hC hP hF hn (hx : C.fx = [])
 have kp : KL [0, 1, 2, 4, 5, 6, 7, 9, 14, 15, 16, 21, 27, 28, 29, 30, 44, 54] := ⟨⟩
 have kr : KR #[.tmp 4] := ⟨⟩
 have c0 := Hold.mk @impl_within.link
 have c1 := Hold.mk @impl_NodeOk.link
 simp only [impl_deeps.f] at H
 have w0 : LJ [2, 5, 14, 15] (fun q X => ∃ x5, ∃ x14, ∃ x15, ∃ x481000, ∃ x481001, ∃ x481002, X = ⟨[(2, .pl 0 none 0), (5, .bor 1 none 0 1 false), (14, .dat false [.sc (.int .i64 x14)]), (15, .dat false [.sc (.int .i64 x15)])], [(0, .mem [.sl none 6 (List.flatMap e57 x481000), .sl none 4 (List.flatMap e86 x481001), .sl none 4 (List.flatMap e88 x481002)]), (1, .vir [.sl (some 0) 1 (List.flatMap eI x5)])]⟩ ∧ q ≤ k ∧ impl_deeps.l0 q x5 x14 x15 x481000 x481001 x481002 = some r) := ⟨⟩
 apply late
 · intro lp0
   apply BZn.out
   exact BZn.go
 · intro q1 X hJ ih0
   clear H
   obtain ⟨x5, x14, x15, x481000, x481001, x481002, rfl, hq, H⟩ := hJ
   cases q1 with
   | zero => (simp only [impl_deeps.l0] at H; cases H)
   | succ kq1 =>
    simp only [impl_deeps.l0] at H
    replace H := Hold.mk H
    obtain ⟨H, H0⟩ | ⟨H, H0⟩ := sIteU H.out
    · (try simp only [List.length_append, List.length_cons, List.length_nil, Nat.zero_add, beq_dec, bne_dec, Bool.or_eq_true, Bool.and_eq_true, Bool.not_eq_true', decide_eq_true_eq, decide_eq_false_iff_not, ite_or', ite_and', ite_not', ge_iff_le, gt_iff_lt] at H)
      repeat' first
       | (with_reducible replace H := sBindA H (by assumption))
       | (with_reducible replace H := sBindS H)
       | (with_reducible replace H := sBind H); obtain ⟨t, hA, H⟩ := H
       | (with_reducible replace H := sBool H); obtain ⟨c, H⟩ | ⟨c, H⟩ := H
       | (with_reducible replace H := sEq H); obtain ⟨c, c', H⟩ | ⟨c, c', H⟩ := H
       | (with_reducible replace H := sEqL H); obtain ⟨c, H⟩ | ⟨c, H⟩ := H
       | (with_reducible replace H := sIte H); obtain ⟨c, H⟩ | ⟨c, H⟩ := H
       | (with_reducible replace H := sAnd H); obtain ⟨c, H⟩ | ⟨c, H⟩ := H
       | (with_reducible replace H := sOr H); obtain ⟨c, H⟩ | ⟨c, H⟩ := H
      all_goals cases H
      all_goals (replace H0 := Hold.mk H0; have H := H0; clear H0)
      all_goals (
       first
        | (with_reducible replace H := Hold.mk (sBindA H.out (by assumption)))
        | (have H1 := sBind H.out; clear H; obtain ⟨t, hA, H⟩ := H1; replace H := Hold.mk H)
       have m0 : LM 1 21 [2, 5, 6, 7, 14, 15] (fun X => ∃ x5, ∃ x6, ∃ x7, ∃ x14, ∃ x15, ∃ x481000, ∃ x481001, ∃ x481002, ∃ q, X = ⟨[(2, .pl 0 none 0), (5, .bor 1 none 0 1 false), (6, .dat false [.sc (.int .i64 x6)]), (7, .dat false [.sc (.int .i64 x7)]), (14, .dat false [.sc (.int .i64 x14)]), (15, .dat false [.sc (.int .i64 x15)])], [(0, .mem [.sl none 6 (List.flatMap e57 x481000), .sl none 4 (List.flatMap e86 x481001), .sl none 4 (List.flatMap e88 x481002)]), (1, .vir [.sl (some 0) 1 (List.flatMap eI x5)])]⟩ ∧ q ≤ kq1 ∧ impl_deeps.j1 q x5 x6 x7 x14 x15 x481000 x481001 x481002 = some r) := ⟨⟩
       apply late
       · intro pa0
         apply late
         · intro pb0
           apply BZc.out
           exact BZc.go
         · clear H
           intro X hJ
           obtain ⟨x5, x6, x7, x14, x15, x481000, x481001, x481002, q2, rfl, hq, H⟩ := hJ
           cases q2 with
           | zero => (simp only [impl_deeps.j1] at H; cases H)
           | succ kq2 =>
            simp only [impl_deeps.j1] at H
            have w1 : LJ [2, 5, 6, 7, 14, 15, 27, 28, 29] (fun q X => ∃ x5, ∃ x6, ∃ x7, ∃ x14, ∃ x15, ∃ x27, ∃ x28, ∃ x29, ∃ x481000, ∃ x481001, ∃ x481002, X = ⟨[(2, .pl 0 none 0), (5, .bor 1 none 0 1 false), (6, .dat false [.sc (.int .i64 x6)]), (7, .dat false [.sc (.int .i64 x7)]), (14, .dat false [.sc (.int .i64 x14)]), (15, .dat false [.sc (.int .i64 x15)]), (27, .dat false [.sl none 1 (List.flatMap eI x27)]), (28, .dat false [.sc (.int .i64 x28)]), (29, .dat false [.sc (.int .i64 x29)])], [(0, .mem [.sl none 6 (List.flatMap e57 x481000), .sl none 4 (List.flatMap e86 x481001), .sl none 4 (List.flatMap e88 x481002)]), (1, .vir [.sl (some 0) 1 (List.flatMap eI x5)])]⟩ ∧ q ≤ kq2 ∧ impl_deeps.l1 q x5 x6 x7 x14 x15 x27 x28 x29 x481000 x481001 x481002 = some r) := ⟨⟩
            apply late
            · intro lp1
              apply BZn.out
              exact BZn.go
            · intro q3 X hJ ih1
              clear H
              obtain ⟨x5, x6, x7, x14, x15, x27, x28, x29, x481000, x481001, x481002, rfl, hq, H⟩ := hJ
              cases q3 with
              | zero => (simp only [impl_deeps.l1] at H; cases H)
              | succ kq3 =>
               simp only [impl_deeps.l1] at H
               apply BZn.out
               exact BZn.go
       · intro hj0
         replace H := H.out
         apply BZ.out
         exact BZ.go)
    · (try simp only [List.length_append, List.length_cons, List.length_nil, Nat.zero_add, beq_dec, bne_dec, Bool.or_eq_true, Bool.and_eq_true, Bool.not_eq_true', decide_eq_true_eq, decide_eq_false_iff_not, ite_or', ite_and', ite_not', ge_iff_le, gt_iff_lt] at H)
      repeat' first
       | (with_reducible replace H := sBindA H (by assumption))
       | (with_reducible replace H := sBindS H)
       | (with_reducible replace H := sBind H); obtain ⟨t, hA, H⟩ := H
       | (with_reducible replace H := sBool H); obtain ⟨c, H⟩ | ⟨c, H⟩ := H
       | (with_reducible replace H := sEq H); obtain ⟨c, c', H⟩ | ⟨c, c', H⟩ := H
       | (with_reducible replace H := sEqL H); obtain ⟨c, H⟩ | ⟨c, H⟩ := H
       | (with_reducible replace H := sIte H); obtain ⟨c, H⟩ | ⟨c, H⟩ := H
       | (with_reducible replace H := sAnd H); obtain ⟨c, H⟩ | ⟨c, H⟩ := H
       | (with_reducible replace H := sOr H); obtain ⟨c, H⟩ | ⟨c, H⟩ := H
      all_goals cases H
      all_goals (replace H0 := Hold.mk H0; have H := H0; clear H0)
      all_goals (
       replace H := H.out
       apply BZ.out
       exact BZ.go)
set_option maxHeartbeats 8000000 in
theorem impl_DeepOf.link {k : Nat} {l0_0 : List (S57)} {l0_1 : List (S86)} {l0_2 : List (S88)} {a1 : Int} {r : Int} (H : impl_DeepOf.f k l0_0 l0_1 l0_2 a1 = some r) : ACalls Try.prog 44 [.dat true [.sl none 6 (List.flatMap e57 l0_0), .sl none 4 (List.flatMap e86 l0_1), .sl none 4 (List.flatMap e88 l0_2)], .dat false [.sc (.int .i64 a1)]] [(false, [.sc (.int .i64 r)])] [.dat true [.sl none 6 (List.flatMap e57 l0_0), .sl none 4 (List.flatMap e86 l0_1), .sl none 4 (List.flatMap e88 l0_2)], .dat false [.sc (.int .i64 a1)]] := by
 refine ACalls.en Try.func44 Try.ntmps44 .go .go .go .go ?_
 intro C F hC hP hF hn (hx : C.fx = [])
 have kp : KL [0, 1, 2, 4, 8] := ⟨⟩
 have kr : KR #[.tmp 4] := ⟨⟩
 have c0 := Hold.mk @impl_isNode.link
 have c1 := Hold.mk @impl_deeps.link
 simp only [impl_DeepOf.f] at H
 apply BZn.out
 exact BZn.go
set_option maxHeartbeats 8000000 in
theorem impl_ValOk.link {a0 : Int} {r : Bool} (H : impl_ValOk.f a0 = some r) : ACalls Try.prog 45 [.dat false [.sc (.int .i64 a0)]] [(false, [.sc (.bool r)])] [.dat false [.sc (.int .i64 a0)]] := by
 refine ACalls.en Try.func45 Try.ntmps45 .go .go .go .go ?_
 intro C F hC hP hF hn (hx : C.fx = [])
 have kp : KL [0, 2] := ⟨⟩
 have kr : KR #[.tmp 2] := ⟨⟩
 have c0 := Hold.mk @impl_within.link
 simp only [impl_ValOk.f] at H
 apply BZ.out
 exact BZ.go
set_option maxHeartbeats 8000000 in
theorem impl_valAt.link {k : Nat} {l0_0 : List ByteArray} {l0_1 : List Int} {a1 : ByteArray} {r : Int} (H : impl_valAt.f k l0_0 l0_1 a1 = some r) : ACalls Try.prog 64 [.dat true [.sl none 1 (List.flatMap eS l0_0), .sl none 1 (List.flatMap eI l0_1)], .dat false [.sc (.string a1)]] [(false, [.sc (.int .i64 r)])] [.dat true [.sl none 1 (List.flatMap eS l0_0), .sl none 1 (List.flatMap eI l0_1)], .dat false [.sc (.string a1)]] := by
 refine ACalls.en Try.func64 Try.ntmps64 .go .go .go .go ?_
 intro C F hC hP hF hn (hx : C.fx = [])
 have kp : KL [0, 1, 2, 4, 5, 14] := ⟨⟩
 have kr : KR #[.tmp 4] := ⟨⟩
 have c0 := Hold.mk @slices_Index_string_string.link
 simp only [impl_valAt.f] at H
 apply BZ.out
 exact BZ.go
set_option maxHeartbeats 8000000 in
theorem impl_GetIn.link {k : Nat} {l0_0 : List ByteArray} {l0_1 : List Int} {a1 : ByteArray} {r : Int} (H : impl_GetIn.f k l0_0 l0_1 a1 = some r) : ACalls Try.prog 46 [.dat true [.sl none 1 (List.flatMap eS l0_0), .sl none 1 (List.flatMap eI l0_1)], .dat false [.sc (.string a1)]] [(false, [.sc (.int .i64 r)])] [.dat true [.sl none 1 (List.flatMap eS l0_0), .sl none 1 (List.flatMap eI l0_1)], .dat false [.sc (.string a1)]] := by
 refine ACalls.en Try.func46 Try.ntmps46 .go .go .go .go ?_
 intro C F hC hP hF hn (hx : C.fx = [])
 have kp : KL [0, 1, 2, 4, 5, 10] := ⟨⟩
 have kr : KR #[.tmp 4] := ⟨⟩
 have c0 := Hold.mk @impl_valAt.link
 simp only [impl_GetIn.f] at H
 apply BZn.out
 exact BZn.go
set_option maxHeartbeats 8000000 in
theorem impl_kidAt.link {l0_0 : List (S57)} {l0_1 : List (S86)} {l0_2 : List (S88)} {a1 : Int} {a2 : Int} {r : Int} (H : impl_kidAt.f l0_0 l0_1 l0_2 a1 a2 = some r) : ACalls Try.prog 47 [.dat true [.sl none 6 (List.flatMap e57 l0_0), .sl none 4 (List.flatMap e86 l0_1), .sl none 4 (List.flatMap e88 l0_2)], .dat false [.sc (.int .i64 a1)], .dat false [.sc (.int .i64 a2)]] [(false, [.sc (.int .i64 r)])] [.dat true [.sl none 6 (List.flatMap e57 l0_0), .sl none 4 (List.flatMap e86 l0_1), .sl none 4 (List.flatMap e88 l0_2)], .dat false [.sc (.int .i64 a1)], .dat false [.sc (.int .i64 a2)]] := by
 refine ACalls.en Try.func47 Try.ntmps47 .go .go .go .go ?_
 intro C F hC hP hF hn (hx : C.fx = [])
 have kp : KL [0, 1, 2, 3, 6, 21] := ⟨⟩
 have kr : KR #[.tmp 6] := ⟨⟩
 have c0 := Hold.mk @impl_isNode.link
 simp only [impl_kidAt.f] at H
 apply BZn.out
 exact BZn.go
set_option maxHeartbeats 8000000 in
theorem impl_truth.link {a0 : Bool} {r : Int} (H : impl_truth.f a0 = some r) : ACalls Try.prog 65 [.dat false [.sc (.bool a0)]] [(false, [.sc (.int .i64 r)])] [.dat false [.sc (.bool a0)]] := by
 refine ACalls.en Try.func65 Try.ntmps65 .go .go .go .go ?_
 intro C F hC hP hF hn (hx : C.fx = [])
 have kp : KL [0, 2, 3] := ⟨⟩
 have kr : KR #[.tmp 2] := ⟨⟩
 simp only [impl_truth.f] at H
 apply BZ.out
 exact BZ.go
set_option maxHeartbeats 8000000 in
theorem impl_Denied.link {a0 : Int} {r : Int} (H : impl_Denied.f a0 = some r) : ACalls Try.prog 48 [.dat false [.sc (.int .i64 a0)]] [(false, [.sc (.int .i64 r)])] [.dat false [.sc (.int .i64 a0)]] := by
 refine ACalls.en Try.func48 Try.ntmps48 .go .go .go .go ?_
 intro C F hC hP hF hn (hx : C.fx = [])
 have kp : KL [0, 2] := ⟨⟩
 have kr : KR #[.tmp 2] := ⟨⟩
 have c0 := Hold.mk @impl_truth.link
 simp only [impl_Denied.f] at H
 apply BZ.out
 exact BZ.go
attribute [local go_sem] Int.zero_sub in
set_option maxHeartbeats 8000000 in
theorem impl_Negated.link {a0 : Int} {r : Int × Int} (H : impl_Negated.f a0 = some r) : ACalls Try.prog 49 [.dat false [.sc (.int .i64 a0)]] [(false, [.sc (.int .i64 r.1)]), (false, [.sc (.int .i64 r.2)])] [.dat false [.sc (.int .i64 a0)]] := by
 refine ACalls.en Try.func49 Try.ntmps49 .go .go .go .go ?_
 intro C F hC hP hF hn (hx : C.fx = [])
 have kp : KL [0, 2, 3, 6] := ⟨⟩
 have kr : KR #[.tmp 2, .tmp 3] := ⟨⟩
 have c0 := Hold.mk @impl_ValOk.link
 simp only [impl_Negated.f] at H
 apply BZ.out
 exact BZ.go
end Go.Proofs.Ytjjhknklnclokaa.PFnExactValueAt
