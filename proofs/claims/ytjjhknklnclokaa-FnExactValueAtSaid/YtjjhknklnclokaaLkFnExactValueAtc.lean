/- Functions' walks: each computes what its plain form says. No condition. -/
import Derived.Test.YtjjhknklnclokaaLkFnExactValueAth
import Derived.Test.YtjjhknklnclokaaLkFnExactValueAta
import Derived.Test.YtjjhknklnclokaaLkFnExactValueAtb
open Go Go.Proofs Go.Proofs.Ytjjhknklnclokaa.Abs
namespace Go.Proofs.Ytjjhknklnclokaa.PFnExactValueAt
open Go.RowKit Go.Proofs.YtjjhknklnclokaaW.PrintWords Go.Proofs.YtjjhknklnclokaaW.PrintLast Go.Proofs.YtjjhknklnclokaaW.PrintMore
set_option linter.unusedVariables false
set_option linter.unusedSimpArgs false
set_option maxRecDepth 100000
attribute [local irreducible] evK evQ evM evF evW evH goE goK goKD goQ goQD goD Ok ACalls
set_option maxHeartbeats 8000000 in
theorem spec_l05Deeps.link {k : Nat} {l0_0 : List (S57)} {l0_1 : List (S86)} {l0_2 : List (S88)} {r : List Int} (H : spec_l05Deeps.f k l0_0 l0_1 l0_2 = some r) : ACalls Try.prog 56 [.dat true [.sl none 6 (List.flatMap e57 l0_0), .sl none 4 (List.flatMap e86 l0_1), .sl none 4 (List.flatMap e88 l0_2)]] [(false, [.sl (some 0) 1 (List.flatMap eI r)])] [.dat true [.sl none 6 (List.flatMap e57 l0_0), .sl none 4 (List.flatMap e86 l0_1), .sl none 4 (List.flatMap e88 l0_2)]] := by
 refine ACalls.en Try.func56 Try.ntmps56 .go .go .go .go ?_
 intro C F hC hP hF hn (hx : C.fx = [])
 have kp : KL [0, 1, 2, 3, 4, 5, 6, 12, 17, 26, 43, 70] := ⟨⟩
 have kr : KR #[.tmp 2] := ⟨⟩
 have c0 := Hold.mk @spec_NodeOk.link
 simp only [spec_l05Deeps.f] at H
 have w0 : LJ [1, 3, 4] (fun q X => ∃ x3, ∃ x4, ∃ x183000, ∃ x183001, ∃ x183002, X = ⟨[(1, .pl 0 none 0), (3, .bor 1 none 0 1 false), (4, .dat false [.sc (.int .i64 x4)])], [(0, .mem [.sl none 6 (List.flatMap e57 x183000), .sl none 4 (List.flatMap e86 x183001), .sl none 4 (List.flatMap e88 x183002)]), (1, .vir [.sl (some 0) 1 (List.flatMap eI x3)])]⟩ ∧ q ≤ k ∧ spec_l05Deeps.l0 q x3 x4 x183000 x183001 x183002 = some r) := ⟨⟩
 apply late
 · intro lp0
   apply BZa.out
   exact BZa.go
 · intro q1 X hJ ih0
   clear H
   obtain ⟨x3, x4, x183000, x183001, x183002, rfl, hq, H⟩ := hJ
   cases q1 with
   | zero => (simp only [spec_l05Deeps.l0] at H; cases H)
   | succ kq1 =>
    simp only [spec_l05Deeps.l0] at H
    have w1 : LJ [1, 3, 4, 5, 6] (fun q X => ∃ x3, ∃ x4, ∃ x5, ∃ x6, ∃ x183000, ∃ x183001, ∃ x183002, X = ⟨[(1, .pl 0 none 0), (3, .bor 1 none 0 1 false), (4, .dat false [.sc (.int .i64 x4)]), (5, .dat false [.sc (.int .i64 x5)]), (6, .dat false [.sc (.int .i64 x6)])], [(0, .mem [.sl none 6 (List.flatMap e57 x183000), .sl none 4 (List.flatMap e86 x183001), .sl none 4 (List.flatMap e88 x183002)]), (1, .vir [.sl (some 0) 1 (List.flatMap eI x3)])]⟩ ∧ q ≤ kq1 ∧ spec_l05Deeps.l1 q x3 x4 x5 x6 x183000 x183001 x183002 = some r) := ⟨⟩
    apply late
    · intro lp1
      apply BZna.out
      exact BZna.go
    · intro q2 X hJ ih1
      clear H
      obtain ⟨x3, x4, x5, x6, x183000, x183001, x183002, rfl, hq, H⟩ := hJ
      cases q2 with
      | zero => (simp only [spec_l05Deeps.l1] at H; cases H)
      | succ kq2 =>
       simp only [spec_l05Deeps.l1] at H
       apply BZna.out
       exact BZna.go
set_option maxHeartbeats 8000000 in
theorem spec_DeepOf.link {k : Nat} {l0_0 : List (S57)} {l0_1 : List (S86)} {l0_2 : List (S88)} {a1 : Int} {r : Int} (H : spec_DeepOf.f k l0_0 l0_1 l0_2 a1 = some r) : ACalls Try.prog 35 [.dat true [.sl none 6 (List.flatMap e57 l0_0), .sl none 4 (List.flatMap e86 l0_1), .sl none 4 (List.flatMap e88 l0_2)], .dat false [.sc (.int .i64 a1)]] [(false, [.sc (.int .i64 r)])] [.dat true [.sl none 6 (List.flatMap e57 l0_0), .sl none 4 (List.flatMap e86 l0_1), .sl none 4 (List.flatMap e88 l0_2)], .dat false [.sc (.int .i64 a1)]] := by
 refine ACalls.en Try.func35 Try.ntmps35 .go .go .go .go ?_
 intro C F hC hP hF hn (hx : C.fx = [])
 have kp : KL [0, 1, 2, 4, 11] := ⟨⟩
 have kr : KR #[.tmp 4] := ⟨⟩
 have c0 := Hold.mk @spec_l01In.link
 have c1 := Hold.mk @spec_l05Deeps.link
 simp only [spec_DeepOf.f] at H
 apply BZn.out
 exact BZn.go
set_option maxHeartbeats 8000000 in
theorem spec_GetIn.link {k : Nat} {l0_0 : List ByteArray} {l0_1 : List Int} {a1 : ByteArray} {r : Int} (H : spec_GetIn.f k l0_0 l0_1 a1 = some r) : ACalls Try.prog 57 [.dat true [.sl none 1 (List.flatMap eS l0_0), .sl none 1 (List.flatMap eI l0_1)], .dat false [.sc (.string a1)]] [(false, [.sc (.int .i64 r)])] [.dat true [.sl none 1 (List.flatMap eS l0_0), .sl none 1 (List.flatMap eI l0_1)], .dat false [.sc (.string a1)]] := by
 refine ACalls.en Try.func57 Try.ntmps57 .go .go .go .go ?_
 intro C F hC hP hF hn (hx : C.fx = [])
 have kp : KL [0, 1, 2, 4, 5, 17, 26] := ⟨⟩
 have kr : KR #[.tmp 4] := ⟨⟩
 simp only [spec_GetIn.f] at H
 have w0 : LJ [1, 2, 5] (fun q X => ∃ x1, ∃ x5, ∃ x227000, ∃ x227001, X = ⟨[(1, .dat false [.sc (.string x1)]), (2, .pl 0 none 0), (5, .dat false [.sc (.int .i64 x5)])], [(0, .mem [.sl none 1 (List.flatMap eS x227000), .sl none 1 (List.flatMap eI x227001)])]⟩ ∧ q ≤ k ∧ spec_GetIn.l0 q x1 x5 x227000 x227001 = some r) := ⟨⟩
 apply late
 · intro lp0
   apply BZ.out
   exact BZ.go
 · intro q1 X hJ ih0
   clear H
   obtain ⟨x1, x5, x227000, x227001, rfl, hq, H⟩ := hJ
   cases q1 with
   | zero => (simp only [spec_GetIn.l0] at H; cases H)
   | succ kq1 =>
    simp only [spec_GetIn.l0] at H
    replace H := Hold.mk H
    have m0 : LM 2 2 [1, 2, 5, 17] (fun X => ∃ x1, ∃ x5, ∃ x17, ∃ x227000, ∃ x227001, ∃ q, X = ⟨[(1, .dat false [.sc (.string x1)]), (2, .pl 0 none 0), (5, .dat false [.sc (.int .i64 x5)]), (17, .dat false [.sc (.bool x17)])], [(0, .mem [.sl none 1 (List.flatMap eS x227000), .sl none 1 (List.flatMap eI x227001)])]⟩ ∧ q ≤ kq1 ∧ spec_GetIn.j1 q x1 x5 x17 x227000 x227001 = some r) := ⟨⟩
    apply late
    · intro pa0
      apply late
      · intro pb0
        apply BZc.out
        exact BZc.go
      · clear H
        intro X hJ
        obtain ⟨x1, x5, x17, x227000, x227001, q2, rfl, hq, H⟩ := hJ
        cases q2 with
        | zero => (simp only [spec_GetIn.j1] at H; cases H)
        | succ kq2 =>
         simp only [spec_GetIn.j1] at H
         apply BZn.out
         exact BZn.go
    · intro hj0
      replace H := H.out
      apply BZ.out
      exact BZ.go
set_option maxHeartbeats 8000000 in
theorem spec_l03Bit.link {a0 : Bool} {r : Int} (H : spec_l03Bit.f a0 = some r) : ACalls Try.prog 69 [.dat false [.sc (.bool a0)]] [(false, [.sc (.int .i64 r)])] [.dat false [.sc (.bool a0)]] := by
 refine ACalls.en Try.func69 Try.ntmps69 .go .go .go .go ?_
 intro C F hC hP hF hn (hx : C.fx = [])
 have kp : KL [0, 2, 3] := ⟨⟩
 have kr : KR #[.tmp 2] := ⟨⟩
 simp only [spec_l03Bit.f] at H
 apply BZ.out
 exact BZ.go
set_option maxHeartbeats 8000000 in
theorem spec_Denied.link {a0 : Int} {r : Int} (H : spec_Denied.f a0 = some r) : ACalls Try.prog 58 [.dat false [.sc (.int .i64 a0)]] [(false, [.sc (.int .i64 r)])] [.dat false [.sc (.int .i64 a0)]] := by
 refine ACalls.en Try.func58 Try.ntmps58 .go .go .go .go ?_
 intro C F hC hP hF hn (hx : C.fx = [])
 have kp : KL [0, 2] := ⟨⟩
 have kr : KR #[.tmp 2] := ⟨⟩
 have c0 := Hold.mk @spec_l03Bit.link
 simp only [spec_Denied.f] at H
 apply BZ.out
 exact BZ.go
set_option maxHeartbeats 8000000 in
theorem spec_ValOk.link {a0 : Int} {r : Bool} (H : spec_ValOk.f a0 = some r) : ACalls Try.prog 70 [.dat false [.sc (.int .i64 a0)]] [(false, [.sc (.bool r)])] [.dat false [.sc (.int .i64 a0)]] := by
 refine ACalls.en Try.func70 Try.ntmps70 .go .go .go .go ?_
 intro C F hC hP hF hn (hx : C.fx = [])
 have kp : KL [0, 2] := ⟨⟩
 have kr : KR #[.tmp 2] := ⟨⟩
 have c0 := Hold.mk @spec_l01In.link
 simp only [spec_ValOk.f] at H
 apply BZ.out
 exact BZ.go
attribute [local go_sem] Int.zero_sub in
set_option maxHeartbeats 8000000 in
theorem spec_Negated.link {a0 : Int} {r : Int × Int} (H : spec_Negated.f a0 = some r) : ACalls Try.prog 59 [.dat false [.sc (.int .i64 a0)]] [(false, [.sc (.int .i64 r.1)]), (false, [.sc (.int .i64 r.2)])] [.dat false [.sc (.int .i64 a0)]] := by
 refine ACalls.en Try.func59 Try.ntmps59 .go .go .go .go ?_
 intro C F hC hP hF hn (hx : C.fx = [])
 have kp : KL [0, 2, 3, 6] := ⟨⟩
 have kr : KR #[.tmp 2, .tmp 3] := ⟨⟩
 have c0 := Hold.mk @spec_ValOk.link
 simp only [spec_Negated.f] at H
 apply BZ.out
 exact BZ.go
set_option maxHeartbeats 8000000 in
theorem spec_Calc.link {k : Nat} {a0 : Int} {a1 : Int} {a2 : Int} {r : Int × Int} (H : spec_Calc.f k a0 a1 a2 = some r) : ACalls Try.prog 60 [.dat false [.sc (.int .i64 a0)], .dat false [.sc (.int .i64 a1)], .dat false [.sc (.int .i64 a2)]] [(false, [.sc (.int .i64 r.1)]), (false, [.sc (.int .i64 r.2)])] [.dat false [.sc (.int .i64 a0)], .dat false [.sc (.int .i64 a1)], .dat false [.sc (.int .i64 a2)]] := by
 refine ACalls.en Try.func60 Try.ntmps60 .go .go .go .go ?_
 intro C F hC hP hF hn (hx : C.fx = [])
 have kp : KL [0, 1, 2, 6, 7, 8, 21, 22, 23, 28, 33, 38, 42, 47, 51, 57, 63, 72, 83] := ⟨⟩
 have kr : KR #[.tmp 6, .tmp 7] := ⟨⟩
 have c0 := Hold.mk @spec_l01In.link
 have c1 := Hold.mk @spec_l03Bit.link
 have c2 := Hold.mk @spec_ValOk.link
 simp only [spec_Calc.f] at H
 replace H := Hold.mk H
 have m0 : LM 2 1 [0, 1, 2, 21] (fun X => ∃ x0, ∃ x1, ∃ x2, ∃ x21, ∃ q, X = ⟨[(0, .dat false [.sc (.int .i64 x0)]), (1, .dat false [.sc (.int .i64 x1)]), (2, .dat false [.sc (.int .i64 x2)]), (21, .dat false [.sc (.bool x21)])], []⟩ ∧ q ≤ k ∧ spec_Calc.j0 q x0 x1 x2 x21 = some r) := ⟨⟩
 apply late
 · intro pa0
   apply late
   · intro pb0
     apply BZc.out
     exact BZc.go
   · clear H
     intro X hJ
     obtain ⟨x0, x1, x2, x21, q1, rfl, hq, H⟩ := hJ
     cases q1 with
     | zero => (simp only [spec_Calc.j0] at H; cases H)
     | succ kq1 =>
      simp only [spec_Calc.j0] at H
      replace H := Hold.mk H
      obtain ⟨H, H0⟩ | ⟨H, H0⟩ := sIteU H.out
      · (try simp only [List.length_append, List.length_cons, List.length_nil, Nat.zero_add, beq_dec, bne_dec, Bool.or_eq_true, Bool.and_eq_true, Bool.not_eq_true', decide_eq_true_eq, decide_eq_false_iff_not, ite_or', ite_and', ite_not', ge_iff_le, gt_iff_lt] at H)
        repeat' first
         | (with_reducible replace H := sBindA H (by assumption))
         | (with_reducible replace H := sBindS H)
         | (with_reducible replace H := sBind H); obtain ⟨t, hA, H⟩ := H
         | (with_reducible replace H := sBool H); obtain ⟨c, H⟩ | ⟨c, H⟩ := H
         | (with_reducible replace H := sEq H); obtain ⟨c, c', H⟩ | ⟨c, c', H⟩ := H
         | (with_reducible replace H := sEqL H); obtain ⟨c, H⟩ | ⟨c, H⟩ := H
         | (with_reducible replace H := sIte H); obtain ⟨c, H⟩ | ⟨c, H⟩ := H
         | (with_reducible replace H := sAnd H); obtain ⟨c, H⟩ | ⟨c, H⟩ := H
         | (with_reducible replace H := sOr H); obtain ⟨c, H⟩ | ⟨c, H⟩ := H
        all_goals cases H
        all_goals (replace H0 := Hold.mk H0; have H := H0; clear H0)
        all_goals (
         replace H := H.out
         apply BZ.out
         exact BZ.go)
      · (try simp only [List.length_append, List.length_cons, List.length_nil, Nat.zero_add, beq_dec, bne_dec, Bool.or_eq_true, Bool.and_eq_true, Bool.not_eq_true', decide_eq_true_eq, decide_eq_false_iff_not, ite_or', ite_and', ite_not', ge_iff_le, gt_iff_lt] at H)
        repeat' first
         | (with_reducible replace H := sBindA H (by assumption))
         | (with_reducible replace H := sBindS H)
         | (with_reducible replace H := sBind H); obtain ⟨t, hA, H⟩ := H
         | (with_reducible replace H := sBool H); obtain ⟨c, H⟩ | ⟨c, H⟩ := H
         | (with_reducible replace H := sEq H); obtain ⟨c, c', H⟩ | ⟨c, c', H⟩ := H
         | (with_reducible replace H := sEqL H); obtain ⟨c, H⟩ | ⟨c, H⟩ := H
         | (with_reducible replace H := sIte H); obtain ⟨c, H⟩ | ⟨c, H⟩ := H
         | (with_reducible replace H := sAnd H); obtain ⟨c, H⟩ | ⟨c, H⟩ := H
         | (with_reducible replace H := sOr H); obtain ⟨c, H⟩ | ⟨c, H⟩ := H
        all_goals cases H
        all_goals (replace H0 := Hold.mk H0; have H := H0; clear H0)
        all_goals (
         obtain ⟨H, H0⟩ | ⟨H, H0⟩ := sIteU H.out
         · (try simp only [List.length_append, List.length_cons, List.length_nil, Nat.zero_add, beq_dec, bne_dec, Bool.or_eq_true, Bool.and_eq_true, Bool.not_eq_true', decide_eq_true_eq, decide_eq_false_iff_not, ite_or', ite_and', ite_not', ge_iff_le, gt_iff_lt] at H)
           repeat' first
            | (with_reducible replace H := sBindA H (by assumption))
            | (with_reducible replace H := sBindS H)
            | (with_reducible replace H := sBind H); obtain ⟨t, hA, H⟩ := H
            | (with_reducible replace H := sBool H); obtain ⟨c, H⟩ | ⟨c, H⟩ := H
            | (with_reducible replace H := sEq H); obtain ⟨c, c', H⟩ | ⟨c, c', H⟩ := H
            | (with_reducible replace H := sEqL H); obtain ⟨c, H⟩ | ⟨c, H⟩ := H
            | (with_reducible replace H := sIte H); obtain ⟨c, H⟩ | ⟨c, H⟩ := H
            | (with_reducible replace H := sAnd H); obtain ⟨c, H⟩ | ⟨c, H⟩ := H
            | (with_reducible replace H := sOr H); obtain ⟨c, H⟩ | ⟨c, H⟩ := H
           all_goals cases H
           all_goals (replace H0 := Hold.mk H0; have H := H0; clear H0)
           all_goals (
            replace H := H.out
            apply BZ.out
            exact BZ.go)
         · (try simp only [List.length_append, List.length_cons, List.length_nil, Nat.zero_add, beq_dec, bne_dec, Bool.or_eq_true, Bool.and_eq_true, Bool.not_eq_true', decide_eq_true_eq, decide_eq_false_iff_not, ite_or', ite_and', ite_not', ge_iff_le, gt_iff_lt] at H)
           repeat' first
            | (with_reducible replace H := sBindA H (by assumption))
            | (with_reducible replace H := sBindS H)
            | (with_reducible replace H := sBind H); obtain ⟨t, hA, H⟩ := H
            | (with_reducible replace H := sBool H); obtain ⟨c, H⟩ | ⟨c, H⟩ := H
            | (with_reducible replace H := sEq H); obtain ⟨c, c', H⟩ | ⟨c, c', H⟩ := H
            | (with_reducible replace H := sEqL H); obtain ⟨c, H⟩ | ⟨c, H⟩ := H
            | (with_reducible replace H := sIte H); obtain ⟨c, H⟩ | ⟨c, H⟩ := H
            | (with_reducible replace H := sAnd H); obtain ⟨c, H⟩ | ⟨c, H⟩ := H
            | (with_reducible replace H := sOr H); obtain ⟨c, H⟩ | ⟨c, H⟩ := H
           all_goals cases H
           all_goals (replace H0 := Hold.mk H0; have H := H0; clear H0)
           all_goals (
            obtain ⟨H, H0⟩ | ⟨H, H0⟩ := sIteU H.out
            · (try simp only [List.length_append, List.length_cons, List.length_nil, Nat.zero_add, beq_dec, bne_dec, Bool.or_eq_true, Bool.and_eq_true, Bool.not_eq_true', decide_eq_true_eq, decide_eq_false_iff_not, ite_or', ite_and', ite_not', ge_iff_le, gt_iff_lt] at H)
              repeat' first
               | (with_reducible replace H := sBindA H (by assumption))
               | (with_reducible replace H := sBindS H)
               | (with_reducible replace H := sBind H); obtain ⟨t, hA, H⟩ := H
               | (with_reducible replace H := sBool H); obtain ⟨c, H⟩ | ⟨c, H⟩ := H
               | (with_reducible replace H := sEq H); obtain ⟨c, c', H⟩ | ⟨c, c', H⟩ := H
               | (with_reducible replace H := sEqL H); obtain ⟨c, H⟩ | ⟨c, H⟩ := H
               | (with_reducible replace H := sIte H); obtain ⟨c, H⟩ | ⟨c, H⟩ := H
               | (with_reducible replace H := sAnd H); obtain ⟨c, H⟩ | ⟨c, H⟩ := H
               | (with_reducible replace H := sOr H); obtain ⟨c, H⟩ | ⟨c, H⟩ := H
              all_goals cases H
              all_goals (replace H0 := Hold.mk H0; have H := H0; clear H0)
              all_goals (
               replace H := H.out
               apply BZ.out
               exact BZ.go)
            · (try simp only [List.length_append, List.length_cons, List.length_nil, Nat.zero_add, beq_dec, bne_dec, Bool.or_eq_true, Bool.and_eq_true, Bool.not_eq_true', decide_eq_true_eq, decide_eq_false_iff_not, ite_or', ite_and', ite_not', ge_iff_le, gt_iff_lt] at H)
              repeat' first
               | (with_reducible replace H := sBindA H (by assumption))
               | (with_reducible replace H := sBindS H)
               | (with_reducible replace H := sBind H); obtain ⟨t, hA, H⟩ := H
               | (with_reducible replace H := sBool H); obtain ⟨c, H⟩ | ⟨c, H⟩ := H
               | (with_reducible replace H := sEq H); obtain ⟨c, c', H⟩ | ⟨c, c', H⟩ := H
               | (with_reducible replace H := sEqL H); obtain ⟨c, H⟩ | ⟨c, H⟩ := H
               | (with_reducible replace H := sIte H); obtain ⟨c, H⟩ | ⟨c, H⟩ := H
               | (with_reducible replace H := sAnd H); obtain ⟨c, H⟩ | ⟨c, H⟩ := H
               | (with_reducible replace H := sOr H); obtain ⟨c, H⟩ | ⟨c, H⟩ := H
              all_goals cases H
              all_goals (replace H0 := Hold.mk H0; have H := H0; clear H0)
              all_goals (
               obtain ⟨H, H0⟩ | ⟨H, H0⟩ := sIteU H.out
               · (try simp only [List.length_append, List.length_cons, List.length_nil, Nat.zero_add, beq_dec, bne_dec, Bool.or_eq_true, Bool.and_eq_true, Bool.not_eq_true', decide_eq_true_eq, decide_eq_false_iff_not, ite_or', ite_and', ite_not', ge_iff_le, gt_iff_lt] at H)
                 repeat' first
                  | (with_reducible replace H := sBindA H (by assumption))
                  | (with_reducible replace H := sBindS H)
                  | (with_reducible replace H := sBind H); obtain ⟨t, hA, H⟩ := H
                  | (with_reducible replace H := sBool H); obtain ⟨c, H⟩ | ⟨c, H⟩ := H
                  | (with_reducible replace H := sEq H); obtain ⟨c, c', H⟩ | ⟨c, c', H⟩ := H
                  | (with_reducible replace H := sEqL H); obtain ⟨c, H⟩ | ⟨c, H⟩ := H
                  | (with_reducible replace H := sIte H); obtain ⟨c, H⟩ | ⟨c, H⟩ := H
                  | (with_reducible replace H := sAnd H); obtain ⟨c, H⟩ | ⟨c, H⟩ := H
                  | (with_reducible replace H := sOr H); obtain ⟨c, H⟩ | ⟨c, H⟩ := H
                 all_goals cases H
                 all_goals (replace H0 := Hold.mk H0; have H := H0; clear H0)
                 all_goals (
                  replace H := H.out
                  apply BZ.out
                  exact BZ.go)
               · (try simp only [List.length_append, List.length_cons, List.length_nil, Nat.zero_add, beq_dec, bne_dec, Bool.or_eq_true, Bool.and_eq_true, Bool.not_eq_true', decide_eq_true_eq, decide_eq_false_iff_not, ite_or', ite_and', ite_not', ge_iff_le, gt_iff_lt] at H)
                 repeat' first
                  | (with_reducible replace H := sBindA H (by assumption))
                  | (with_reducible replace H := sBindS H)
                  | (with_reducible replace H := sBind H); obtain ⟨t, hA, H⟩ := H
                  | (with_reducible replace H := sBool H); obtain ⟨c, H⟩ | ⟨c, H⟩ := H
                  | (with_reducible replace H := sEq H); obtain ⟨c, c', H⟩ | ⟨c, c', H⟩ := H
                  | (with_reducible replace H := sEqL H); obtain ⟨c, H⟩ | ⟨c, H⟩ := H
                  | (with_reducible replace H := sIte H); obtain ⟨c, H⟩ | ⟨c, H⟩ := H
                  | (with_reducible replace H := sAnd H); obtain ⟨c, H⟩ | ⟨c, H⟩ := H
                  | (with_reducible replace H := sOr H); obtain ⟨c, H⟩ | ⟨c, H⟩ := H
                 all_goals cases H
                 all_goals (replace H0 := Hold.mk H0; have H := H0; clear H0)
                 all_goals (
                  have m0 : LM 1 38 [0, 1, 2, 8, 22, 38] (fun X => ∃ x0, ∃ x1, ∃ x2, ∃ x8, ∃ x22, ∃ x38, ∃ q, X = ⟨[(0, .dat false [.sc (.int .i64 x0)]), (1, .dat false [.sc (.int .i64 x1)]), (2, .dat false [.sc (.int .i64 x2)]), (8, .dat false [.sc (.int .i64 x8)]), (22, .dat false [.sc (.int .i64 x22)]), (38, .dat false [.sc (.bool x38)])], []⟩ ∧ q ≤ kq1 ∧ spec_Calc.j1 q x0 x1 x2 x8 x22 x38 = some r) := ⟨⟩
                  apply late
                  · intro pa0
                    apply late
                    · intro pb0
                      apply BZc.out
                      exact BZc.go
                    · clear H
                      intro X hJ
                      obtain ⟨x0, x1, x2, x8, x22, x38, q2, rfl, hq, H⟩ := hJ
                      cases q2 with
                      | zero => (simp only [spec_Calc.j1] at H; cases H)
                      | succ kq2 =>
                       simp only [spec_Calc.j1] at H
                       apply BZ.out
                       exact BZ.go
                  · intro hj0
                    replace H := H.out
                    apply BZ.out
                    exact BZ.go))))
 · intro hj0
   replace H := H.out
   apply BZ.out
   exact BZ.go
end Go.Proofs.Ytjjhknklnclokaa.PFnExactValueAt
