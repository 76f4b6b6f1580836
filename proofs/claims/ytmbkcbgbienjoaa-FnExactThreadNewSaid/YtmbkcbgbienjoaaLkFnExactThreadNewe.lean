/- Functions' walks: each computes what its plain form says. No condition. -/
import Derived.Test.YtmbkcbgbienjoaaLkFnExactThreadNewh
import Derived.Test.YtmbkcbgbienjoaaLkFnExactThreadNewa
import Derived.Test.YtmbkcbgbienjoaaLkFnExactThreadNewb
import Derived.Test.YtmbkcbgbienjoaaLkFnExactThreadNewc
import Derived.Test.YtmbkcbgbienjoaaLkFnExactThreadNewd
open Go Go.Proofs Go.Proofs.Ytmbkcbgbienjoaa.Abs
namespace Go.Proofs.Ytmbkcbgbienjoaa.PFnExactThreadNew
open Go.RowKit Go.Proofs.YtmbkcbgbienjoaaW.PrintWords Go.Proofs.YtmbkcbgbienjoaaW.PrintLast Go.Proofs.YtmbkcbgbienjoaaW.PrintMore
set_option linter.unusedVariables false
set_option linter.unusedSimpArgs false
set_option maxRecDepth 100000
attribute [local irreducible] evK evQ evM evF evW evH goE goK goKD goQ goQD goD Ok ACalls
set_option maxHeartbeats 8000000 in
theorem laws_FnExactThreadNew.link {k : Nat} {l0_0 : List (S113)} {l0_1 : List (S117)} {l0_2 : List (S119)} {a1 : Int} {l2 : List ByteArray} {r : Bool} (H : laws_FnExactThreadNew.f k l0_0 l0_1 l0_2 a1 l2 = some r) : ACalls Try.prog 5 [.dat true [.sl none 6 (List.flatMap e113 l0_0), .sl none 4 (List.flatMap e117 l0_1), .sl none 4 (List.flatMap e119 l0_2)], .dat false [.sc (.int .i64 a1)], .dat false [.sl none 1 (List.flatMap eS l2)]] [(false, [.sc (.bool r)])] [.dat true [.sl none 6 (List.flatMap e113 l0_0), .sl none 4 (List.flatMap e117 l0_1), .sl none 4 (List.flatMap e119 l0_2)], .dat false [.sc (.int .i64 a1)], .dat false [.sl none 1 (List.flatMap eS l2)]] := by
 refine ACalls.en Try.func5 Try.ntmps5 .go .go .go .go ?_
 intro C F hC hP hF hn (hx : C.fx = [])
 have kp : KL [0, 1, 2, 3, 6, 7, 8, 9, 10, 11, 12, 13, 14, 15, 20, 25, 43, 48, 53, 67, 75, 78, 88, 93, 96] := ⟨⟩
 have kr : KR #[.tmp 6] := ⟨⟩
 have kd0 : KD 14 (noneL [0, 1] ++ ((2, some [0]) :: ((3, some []) :: (noneL [4] ++ [])))) := ⟨⟩
 have c0 := Hold.mk @laws_szStringS.link
 have c1 := Hold.mk @laws_szProgram.link
 have c2 := Hold.mk @laws_toStringS.link
 have c3 := Hold.mk @laws_toProgram.link
 have c4 := Hold.mk @laws_eqStringS.link
 have c5 := Hold.mk @laws_eqProgram.link
 have c6 := Hold.mk @laws_eqThread.link
 have c7 := Hold.mk @spec_ThreadNew.link
 have c8 := Hold.mk @impl_ThreadNew.link
 have c9 := Hold.mk @laws_heldThread.link
 have d0 := Hold.mk @laws_markStringS.link
 have d1 := Hold.mk @laws_markThread.link
 have d2 := Hold.mk @laws_markProgram.link
 simp only [laws_FnExactThreadNew.f] at H
 replace H := Hold.mk H
 first
  | (with_reducible replace H := Hold.mk (sBindA H.out (by assumption)))
  | (have H1 := sBind H.out; clear H; obtain ⟨t, hA, H⟩ := H1; replace H := Hold.mk H)
 obtain ⟨H, H0⟩ | ⟨H, H0⟩ := sIteU H.out
 · (try simp only [List.length_append, List.length_cons, List.length_nil, Nat.zero_add, beq_dec, bne_dec, Bool.or_eq_true, Bool.and_eq_true, Bool.not_eq_true', decide_eq_true_eq, decide_eq_false_iff_not, ite_or', ite_and', ite_not', ge_iff_le, gt_iff_lt] at H)
   repeat' first
    | (with_reducible replace H := sBindA H (by assumption))
    | (with_reducible replace H := sBindS H)
    | (with_reducible replace H := sBind H); obtain ⟨t, hA, H⟩ := H
    | (with_reducible replace H := sBool H); obtain ⟨c, H⟩ | ⟨c, H⟩ := H
    | (with_reducible replace H := sEq H); obtain ⟨c, c', H⟩ | ⟨c, c', H⟩ := H
    | (with_reducible replace H := sEqL H); obtain ⟨c, H⟩ | ⟨c, H⟩ := H
    | (with_reducible replace H := sIte H); obtain ⟨c, H⟩ | ⟨c, H⟩ := H
    | (with_reducible replace H := sAnd H); obtain ⟨c, H⟩ | ⟨c, H⟩ := H
    | (with_reducible replace H := sOr H); obtain ⟨c, H⟩ | ⟨c, H⟩ := H
   all_goals cases H
   all_goals (replace H0 := Hold.mk H0; have H := H0; clear H0)
   all_goals (
    replace H := H.out
    apply BZm.out
    exact BZm.go)
 · (try simp only [List.length_append, List.length_cons, List.length_nil, Nat.zero_add, beq_dec, bne_dec, Bool.or_eq_true, Bool.and_eq_true, Bool.not_eq_true', decide_eq_true_eq, decide_eq_false_iff_not, ite_or', ite_and', ite_not', ge_iff_le, gt_iff_lt] at H)
   repeat' first
    | (with_reducible replace H := sBindA H (by assumption))
    | (with_reducible replace H := sBindS H)
    | (with_reducible replace H := sBind H); obtain ⟨t, hA, H⟩ := H
    | (with_reducible replace H := sBool H); obtain ⟨c, H⟩ | ⟨c, H⟩ := H
    | (with_reducible replace H := sEq H); obtain ⟨c, c', H⟩ | ⟨c, c', H⟩ := H
    | (with_reducible replace H := sEqL H); obtain ⟨c, H⟩ | ⟨c, H⟩ := H
    | (with_reducible replace H := sIte H); obtain ⟨c, H⟩ | ⟨c, H⟩ := H
    | (with_reducible replace H := sAnd H); obtain ⟨c, H⟩ | ⟨c, H⟩ := H
    | (with_reducible replace H := sOr H); obtain ⟨c, H⟩ | ⟨c, H⟩ := H
   all_goals cases H
   all_goals (replace H0 := Hold.mk H0; have H := H0; clear H0)
   all_goals (
    first
     | (with_reducible replace H := Hold.mk (sBindA H.out (by assumption)))
     | (have H1 := sBind H.out; clear H; obtain ⟨t, hA, H⟩ := H1; replace H := Hold.mk H)
    obtain ⟨H, H0⟩ | ⟨H, H0⟩ := sIteU H.out
    · (try simp only [List.length_append, List.length_cons, List.length_nil, Nat.zero_add, beq_dec, bne_dec, Bool.or_eq_true, Bool.and_eq_true, Bool.not_eq_true', decide_eq_true_eq, decide_eq_false_iff_not, ite_or', ite_and', ite_not', ge_iff_le, gt_iff_lt] at H)
      repeat' first
       | (with_reducible replace H := sBindA H (by assumption))
       | (with_reducible replace H := sBindS H)
       | (with_reducible replace H := sBind H); obtain ⟨t, hA, H⟩ := H
       | (with_reducible replace H := sBool H); obtain ⟨c, H⟩ | ⟨c, H⟩ := H
       | (with_reducible replace H := sEq H); obtain ⟨c, c', H⟩ | ⟨c, c', H⟩ := H
       | (with_reducible replace H := sEqL H); obtain ⟨c, H⟩ | ⟨c, H⟩ := H
       | (with_reducible replace H := sIte H); obtain ⟨c, H⟩ | ⟨c, H⟩ := H
       | (with_reducible replace H := sAnd H); obtain ⟨c, H⟩ | ⟨c, H⟩ := H
       | (with_reducible replace H := sOr H); obtain ⟨c, H⟩ | ⟨c, H⟩ := H
      all_goals cases H
      all_goals (replace H0 := Hold.mk H0; have H := H0; clear H0)
      all_goals (
       replace H := H.out
       apply BZm.out
       exact BZm.go)
    · (try simp only [List.length_append, List.length_cons, List.length_nil, Nat.zero_add, beq_dec, bne_dec, Bool.or_eq_true, Bool.and_eq_true, Bool.not_eq_true', decide_eq_true_eq, decide_eq_false_iff_not, ite_or', ite_and', ite_not', ge_iff_le, gt_iff_lt] at H)
      repeat' first
       | (with_reducible replace H := sBindA H (by assumption))
       | (with_reducible replace H := sBindS H)
       | (with_reducible replace H := sBind H); obtain ⟨t, hA, H⟩ := H
       | (with_reducible replace H := sBool H); obtain ⟨c, H⟩ | ⟨c, H⟩ := H
       | (with_reducible replace H := sEq H); obtain ⟨c, c', H⟩ | ⟨c, c', H⟩ := H
       | (with_reducible replace H := sEqL H); obtain ⟨c, H⟩ | ⟨c, H⟩ := H
       | (with_reducible replace H := sIte H); obtain ⟨c, H⟩ | ⟨c, H⟩ := H
       | (with_reducible replace H := sAnd H); obtain ⟨c, H⟩ | ⟨c, H⟩ := H
       | (with_reducible replace H := sOr H); obtain ⟨c, H⟩ | ⟨c, H⟩ := H
      all_goals cases H
      all_goals (replace H0 := Hold.mk H0; have H := H0; clear H0)
      all_goals (
       first
        | (with_reducible replace H := Hold.mk (sBindA H.out (by assumption)))
        | (have H1 := sBind H.out; clear H; obtain ⟨t, hA, H⟩ := H1; replace H := Hold.mk H)
       first
        | (with_reducible replace H := Hold.mk (sBindA H.out (by assumption)))
        | (have H1 := sBind H.out; clear H; obtain ⟨t, hA, H⟩ := H1; replace H := Hold.mk H)
       first
        | (with_reducible replace H := Hold.mk (sBindA H.out (by assumption)))
        | (have H1 := sBind H.out; clear H; obtain ⟨t, hA, H⟩ := H1; replace H := Hold.mk H)
       first
        | (with_reducible replace H := Hold.mk (sBindA H.out (by assumption)))
        | (have H1 := sBind H.out; clear H; obtain ⟨t, hA, H⟩ := H1; replace H := Hold.mk H)
       first
        | (with_reducible replace H := Hold.mk (sBindA H.out (by assumption)))
        | (have H1 := sBind H.out; clear H; obtain ⟨t, hA, H⟩ := H1; replace H := Hold.mk H)
       first
        | (with_reducible replace H := Hold.mk (sBindA H.out (by assumption)))
        | (have H1 := sBind H.out; clear H; obtain ⟨t, hA, H⟩ := H1; replace H := Hold.mk H)
       first
        | (with_reducible replace H := Hold.mk (sBindA H.out (by assumption)))
        | (have H1 := sBind H.out; clear H; obtain ⟨t, hA, H⟩ := H1; replace H := Hold.mk H)
       obtain ⟨H, H0⟩ | ⟨H, H0⟩ := sIteU H.out
       · (try simp only [List.length_append, List.length_cons, List.length_nil, Nat.zero_add, beq_dec, bne_dec, Bool.or_eq_true, Bool.and_eq_true, Bool.not_eq_true', decide_eq_true_eq, decide_eq_false_iff_not, ite_or', ite_and', ite_not', ge_iff_le, gt_iff_lt] at H)
         repeat' first
          | (with_reducible replace H := sBindA H (by assumption))
          | (with_reducible replace H := sBindS H)
          | (with_reducible replace H := sBind H); obtain ⟨t, hA, H⟩ := H
          | (with_reducible replace H := sBool H); obtain ⟨c, H⟩ | ⟨c, H⟩ := H
          | (with_reducible replace H := sEq H); obtain ⟨c, c', H⟩ | ⟨c, c', H⟩ := H
          | (with_reducible replace H := sEqL H); obtain ⟨c, H⟩ | ⟨c, H⟩ := H
          | (with_reducible replace H := sIte H); obtain ⟨c, H⟩ | ⟨c, H⟩ := H
          | (with_reducible replace H := sAnd H); obtain ⟨c, H⟩ | ⟨c, H⟩ := H
          | (with_reducible replace H := sOr H); obtain ⟨c, H⟩ | ⟨c, H⟩ := H
         all_goals cases H
         all_goals (replace H0 := Hold.mk H0; have H := H0; clear H0)
         all_goals (
          first
           | (with_reducible replace H := Hold.mk (sBindA H.out (by assumption)))
           | (have H1 := sBind H.out; clear H; obtain ⟨t, hA, H⟩ := H1; replace H := Hold.mk H)
          first
           | (with_reducible replace H := Hold.mk (sBindA H.out (by assumption)))
           | (have H1 := sBind H.out; clear H; obtain ⟨t, hA, H⟩ := H1; replace H := Hold.mk H)
          obtain ⟨H, H0⟩ | ⟨H, H0⟩ := sIteU H.out
          · (try simp only [List.length_append, List.length_cons, List.length_nil, Nat.zero_add, beq_dec, bne_dec, Bool.or_eq_true, Bool.and_eq_true, Bool.not_eq_true', decide_eq_true_eq, decide_eq_false_iff_not, ite_or', ite_and', ite_not', ge_iff_le, gt_iff_lt] at H)
            repeat' first
             | (with_reducible replace H := sBindA H (by assumption))
             | (with_reducible replace H := sBindS H)
             | (with_reducible replace H := sBind H); obtain ⟨t, hA, H⟩ := H
             | (with_reducible replace H := sBool H); obtain ⟨c, H⟩ | ⟨c, H⟩ := H
             | (with_reducible replace H := sEq H); obtain ⟨c, c', H⟩ | ⟨c, c', H⟩ := H
             | (with_reducible replace H := sEqL H); obtain ⟨c, H⟩ | ⟨c, H⟩ := H
             | (with_reducible replace H := sIte H); obtain ⟨c, H⟩ | ⟨c, H⟩ := H
             | (with_reducible replace H := sAnd H); obtain ⟨c, H⟩ | ⟨c, H⟩ := H
             | (with_reducible replace H := sOr H); obtain ⟨c, H⟩ | ⟨c, H⟩ := H
            all_goals cases H
            all_goals (replace H0 := Hold.mk H0; have H := H0; clear H0)
            all_goals (
             first
              | (with_reducible replace H := Hold.mk (sBindA H.out (by assumption)))
              | (have H1 := sBind H.out; clear H; obtain ⟨t, hA, H⟩ := H1; replace H := Hold.mk H)
             first
              | (with_reducible replace H := Hold.mk (sBindA H.out (by assumption)))
              | (have H1 := sBind H.out; clear H; obtain ⟨t, hA, H⟩ := H1; replace H := Hold.mk H)
             obtain ⟨H, H0⟩ | ⟨H, H0⟩ := sIteU H.out
             · (try simp only [List.length_append, List.length_cons, List.length_nil, Nat.zero_add, beq_dec, bne_dec, Bool.or_eq_true, Bool.and_eq_true, Bool.not_eq_true', decide_eq_true_eq, decide_eq_false_iff_not, ite_or', ite_and', ite_not', ge_iff_le, gt_iff_lt] at H)
               repeat' first
                | (with_reducible replace H := sBindA H (by assumption))
                | (with_reducible replace H := sBindS H)
                | (with_reducible replace H := sBind H); obtain ⟨t, hA, H⟩ := H
                | (with_reducible replace H := sBool H); obtain ⟨c, H⟩ | ⟨c, H⟩ := H
                | (with_reducible replace H := sEq H); obtain ⟨c, c', H⟩ | ⟨c, c', H⟩ := H
                | (with_reducible replace H := sEqL H); obtain ⟨c, H⟩ | ⟨c, H⟩ := H
                | (with_reducible replace H := sIte H); obtain ⟨c, H⟩ | ⟨c, H⟩ := H
                | (with_reducible replace H := sAnd H); obtain ⟨c, H⟩ | ⟨c, H⟩ := H
                | (with_reducible replace H := sOr H); obtain ⟨c, H⟩ | ⟨c, H⟩ := H
               all_goals cases H
               all_goals (replace H0 := Hold.mk H0; have H := H0; clear H0)
               all_goals (
                first
                 | (with_reducible replace H := Hold.mk (sBindA H.out (by assumption)))
                 | (have H1 := sBind H.out; clear H; obtain ⟨t, hA, H⟩ := H1; replace H := Hold.mk H)
                first
                 | (with_reducible replace H := Hold.mk (sBindA H.out (by assumption)))
                 | (have H1 := sBind H.out; clear H; obtain ⟨t, hA, H⟩ := H1; replace H := Hold.mk H)
                have m0 : LM 2 21 [1, 2, 3, 8, 11, 67] (fun X => ∃ x1, ∃ x2, ∃ x67, ∃ x326000, ∃ x326001, ∃ x326002, ∃ x351000, ∃ x351001, ∃ x351002, ∃ x351003, ∃ x375000, ∃ x375001, ∃ x375002, ∃ x375003, ∃ q, X = ⟨[(1, .dat false [.sc (.int .i64 x1)]), (2, .dat false [.sl none 1 (List.flatMap eS x2)]), (3, .pl 0 none 0), (8, .pl 1 none 0), (11, .pl 2 none 0), (67, .dat false [.sc (.bool x67)])], [(0, .mem [.sl none 6 (List.flatMap e113 x326000), .sl none 4 (List.flatMap e117 x326001), .sl none 4 (List.flatMap e119 x326002)]), (1, .mem [.sl (some 0) 1 (List.flatMap eI x351000), .sl (some 0) 1 (List.flatMap eS x351001), .sl (some 0) 1 (List.flatMap eI x351002), .sc (.int .i64 x351003)]), (2, .mem [.sl (some 0) 1 (List.flatMap eI x375000), .sl (some 0) 1 (List.flatMap eS x375001), .sl (some 0) 1 (List.flatMap eI x375002), .sc (.int .i64 x375003)])]⟩ ∧ q ≤ k ∧ laws_FnExactThreadNew.j0 q x1 x2 x67 x326000 x326001 x326002 x351000 x351001 x351002 x351003 x375000 x375001 x375002 x375003 = some r) := ⟨⟩
                apply late
                · intro pa0
                  apply late
                  · intro pb0
                    apply BZcm.out
                    exact BZcm.go
                  · clear H
                    intro X hJ
                    obtain ⟨x1, x2, x67, x326000, x326001, x326002, x351000, x351001, x351002, x351003, x375000, x375001, x375002, x375003, q1, rfl, hq, H⟩ := hJ
                    cases q1 with
                    | zero => (simp only [laws_FnExactThreadNew.j0] at H; cases H)
                    | succ kq1 =>
                     simp only [laws_FnExactThreadNew.j0] at H
                     apply BZnm.out
                     exact BZnm.go
                · intro hj0
                  replace H := H.out
                  apply BZm.out
                  exact BZm.go)
             · (try simp only [List.length_append, List.length_cons, List.length_nil, Nat.zero_add, beq_dec, bne_dec, Bool.or_eq_true, Bool.and_eq_true, Bool.not_eq_true', decide_eq_true_eq, decide_eq_false_iff_not, ite_or', ite_and', ite_not', ge_iff_le, gt_iff_lt] at H)
               repeat' first
                | (with_reducible replace H := sBindA H (by assumption))
                | (with_reducible replace H := sBindS H)
                | (with_reducible replace H := sBind H); obtain ⟨t, hA, H⟩ := H
                | (with_reducible replace H := sBool H); obtain ⟨c, H⟩ | ⟨c, H⟩ := H
                | (with_reducible replace H := sEq H); obtain ⟨c, c', H⟩ | ⟨c, c', H⟩ := H
                | (with_reducible replace H := sEqL H); obtain ⟨c, H⟩ | ⟨c, H⟩ := H
                | (with_reducible replace H := sIte H); obtain ⟨c, H⟩ | ⟨c, H⟩ := H
                | (with_reducible replace H := sAnd H); obtain ⟨c, H⟩ | ⟨c, H⟩ := H
                | (with_reducible replace H := sOr H); obtain ⟨c, H⟩ | ⟨c, H⟩ := H
               all_goals cases H
               all_goals (replace H0 := Hold.mk H0; have H := H0; clear H0)
               all_goals (
                replace H := H.out
                apply BZm.out
                exact BZm.go))
          · (try simp only [List.length_append, List.length_cons, List.length_nil, Nat.zero_add, beq_dec, bne_dec, Bool.or_eq_true, Bool.and_eq_true, Bool.not_eq_true', decide_eq_true_eq, decide_eq_false_iff_not, ite_or', ite_and', ite_not', ge_iff_le, gt_iff_lt] at H)
            repeat' first
             | (with_reducible replace H := sBindA H (by assumption))
             | (with_reducible replace H := sBindS H)
             | (with_reducible replace H := sBind H); obtain ⟨t, hA, H⟩ := H
             | (with_reducible replace H := sBool H); obtain ⟨c, H⟩ | ⟨c, H⟩ := H
             | (with_reducible replace H := sEq H); obtain ⟨c, c', H⟩ | ⟨c, c', H⟩ := H
             | (with_reducible replace H := sEqL H); obtain ⟨c, H⟩ | ⟨c, H⟩ := H
             | (with_reducible replace H := sIte H); obtain ⟨c, H⟩ | ⟨c, H⟩ := H
             | (with_reducible replace H := sAnd H); obtain ⟨c, H⟩ | ⟨c, H⟩ := H
             | (with_reducible replace H := sOr H); obtain ⟨c, H⟩ | ⟨c, H⟩ := H
            all_goals cases H
            all_goals (replace H0 := Hold.mk H0; have H := H0; clear H0)
            all_goals (
             replace H := H.out
             apply BZm.out
             exact BZm.go))
       · (try simp only [List.length_append, List.length_cons, List.length_nil, Nat.zero_add, beq_dec, bne_dec, Bool.or_eq_true, Bool.and_eq_true, Bool.not_eq_true', decide_eq_true_eq, decide_eq_false_iff_not, ite_or', ite_and', ite_not', ge_iff_le, gt_iff_lt] at H)
         repeat' first
          | (with_reducible replace H := sBindA H (by assumption))
          | (with_reducible replace H := sBindS H)
          | (with_reducible replace H := sBind H); obtain ⟨t, hA, H⟩ := H
          | (with_reducible replace H := sBool H); obtain ⟨c, H⟩ | ⟨c, H⟩ := H
          | (with_reducible replace H := sEq H); obtain ⟨c, c', H⟩ | ⟨c, c', H⟩ := H
          | (with_reducible replace H := sEqL H); obtain ⟨c, H⟩ | ⟨c, H⟩ := H
          | (with_reducible replace H := sIte H); obtain ⟨c, H⟩ | ⟨c, H⟩ := H
          | (with_reducible replace H := sAnd H); obtain ⟨c, H⟩ | ⟨c, H⟩ := H
          | (with_reducible replace H := sOr H); obtain ⟨c, H⟩ | ⟨c, H⟩ := H
         all_goals cases H
         all_goals (replace H0 := Hold.mk H0; have H := H0; clear H0)
         all_goals (
          replace H := H.out
          apply BZm.out
          exact BZm.go)))
end Go.Proofs.Ytmbkcbgbienjoaa.PFnExactThreadNew
