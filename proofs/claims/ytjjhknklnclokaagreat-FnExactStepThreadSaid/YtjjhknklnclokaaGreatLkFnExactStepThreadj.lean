/- Functions' walks: each computes what its plain form says. No condition. -/
import Derived.Test.YtjjhknklnclokaaGreatLkFnExactStepThreadh
import Derived.Test.YtjjhknklnclokaaGreatLkFnExactStepThreada
import Derived.Test.YtjjhknklnclokaaGreatLkFnExactStepThreadc
import Derived.Test.YtjjhknklnclokaaGreatLkFnExactStepThreade
import Derived.Test.YtjjhknklnclokaaGreatLkFnExactStepThreadf
import Derived.Test.YtjjhknklnclokaaGreatLkFnExactStepThreadi
open Go Go.Proofs Go.Proofs.YtjjhknklnclokaaGreat.Abs
namespace Go.Proofs.YtjjhknklnclokaaGreat.PFnExactStepThread
open Go.RowKit Go.Proofs.YtjjhknklnclokaaGreatW.PrintWords Go.Proofs.YtjjhknklnclokaaGreatW.PrintLast Go.Proofs.YtjjhknklnclokaaGreatW.PrintMore
set_option linter.unusedVariables false
set_option linter.unusedSimpArgs false
set_option maxRecDepth 100000
attribute [local irreducible] evK evQ evM evF evW evH goE goK goKD goQ goQD goD Ok ACalls
set_option maxHeartbeats 8000000 in
theorem laws_FnExactStepThread.link {k : Nat} {l0_0 : List (S99)} {l0_1 : List (S103)} {l0_2 : List (S106)} {l1_0 : List Int} {l1_1 : List ByteArray} {l1_2 : List Int} {a1_3 : Int} {r : Bool} (H : laws_FnExactStepThread.f k l0_0 l0_1 l0_2 l1_0 l1_1 l1_2 a1_3 = some r) : ACalls Tryz.prog 5 [.dat true [.sl none 6 (List.flatMap e99 l0_0), .sl none 4 (List.flatMap e103 l0_1), .sl none 4 (List.flatMap e106 l0_2)], .dat true [.sl none 1 (List.flatMap eI l1_0), .sl none 1 (List.flatMap eS l1_1), .sl none 1 (List.flatMap eI l1_2), .sc (.int .i64 a1_3)]] [(false, [.sc (.bool r)])] [.dat true [.sl none 6 (List.flatMap e99 l0_0), .sl none 4 (List.flatMap e103 l0_1), .sl none 4 (List.flatMap e106 l0_2)], .dat true [.sl none 1 (List.flatMap eI l1_0), .sl none 1 (List.flatMap eS l1_1), .sl none 1 (List.flatMap eI l1_2), .sc (.int .i64 a1_3)]] := by
 refine ACalls.en Tryz.func5 Tryz.ntmps5 .go .go .go .go ?_
 intro C F hC hP hF hn (hx : C.fx = [])
 have kp : KL [0, 1, 2, 3, 4, 5, 6, 7, 8, 9, 10, 11, 12, 13, 18, 23, 39, 44, 49, 63, 71, 74, 83, 88, 91] := ⟨⟩
 have kr : KR #[.tmp 4] := ⟨⟩
 have kt0 : KT 8 [0, 2] [0, 1, 2, 3, 4, 5, 6] (.e 0 (.e 2 (.m 1 [2] (.m 3 [] (.m 4 [] (.m 5 [] (.m 6 [] .z .x) .x) (.m 5 [] (.m 4 [] (.m 6 [] .z .x) .x) .x)) (.m 5 [2] (.m 3 [] (.m 4 [] (.m 6 [] .z .x) .x) .x) .x)) (.m 5 [2, 0] (.m 1 [2] (.m 3 [] (.m 4 [] (.m 6 [] .z .x) .x) .x) .x) .x)))) := ⟨⟩
 have kt1 : KT 31 [0, 2] [0, 1, 2, 3, 4, 5, 6] (.e 0 (.e 2 (.m 1 [2] (.m 3 [] (.m 4 [] (.m 5 [] (.m 6 [] .z .x) .x) (.m 5 [] (.m 4 [] (.m 6 [] .z .x) .x) .x)) (.m 5 [2] (.m 3 [] (.m 4 [] (.m 6 [] .z .x) .x) .x) .x)) (.m 5 [2, 0] (.m 1 [2] (.m 3 [] (.m 4 [] (.m 6 [] .z .x) .x) .x) .x) .x)))) := ⟨⟩
 have kd0 : KD 14 (noneL [0, 1] ++ ((2, some [0]) :: ((3, some []) :: (noneL [4] ++ [])))) := ⟨⟩
 have kd1 : KD 16 (noneL [0, 1] ++ ((2, some [0]) :: ((3, some []) :: (noneL [4] ++ [])))) := ⟨⟩
 have c0 := Hold.mk @laws_szProgram.link
 have c1 := Hold.mk @laws_toProgram.link
 have c2 := Hold.mk @laws_eqProgram.link
 have c3 := Hold.mk @laws_szThread.link
 have c4 := Hold.mk @laws_toThread.link
 have c5 := Hold.mk @impl_StepThread.link
 have c6 := Hold.mk @laws_eqThread.link
 have c7 := Hold.mk @laws_heldThread.link
 have c8 := Hold.mk @spec_StepThread.link
 have d0 := Hold.mk @laws_markThread.link
 have d1 := Hold.mk @laws_markProgram.link
 simp only [laws_FnExactStepThread.f] at H
 replace H := Hold.mk H
 first
  | (with_reducible replace H := Hold.mk (sBindA H.out (by assumption)))
  | (have H1 := sBind H.out; clear H; obtain ⟨t, hA, H⟩ := H1; replace H := Hold.mk H)
 obtain ⟨H, H0⟩ | ⟨H, H0⟩ := sIteU H.out
 · (try simp only [List.length_append, List.length_cons, List.length_nil, Nat.zero_add, beq_dec, bne_dec, Bool.or_eq_true, Bool.and_eq_true, Bool.not_eq_true', decide_eq_true_eq, decide_eq_false_iff_not, ite_or', ite_and', ite_not', ge_iff_le, gt_iff_lt] at H)
   repeat' first
    | (with_reducible replace H := sBindA H (by assumption))
    | (with_reducible replace H := sBindS H)
    | (with_reducible replace H := sBind H); obtain ⟨t, hA, H⟩ := H
    | (with_reducible replace H := sBool H); obtain ⟨c, H⟩ | ⟨c, H⟩ := H
    | (with_reducible replace H := sEq H); obtain ⟨c, c', H⟩ | ⟨c, c', H⟩ := H
    | (with_reducible replace H := sEqL H); obtain ⟨c, H⟩ | ⟨c, H⟩ := H
    | (with_reducible replace H := sIte H); obtain ⟨c, H⟩ | ⟨c, H⟩ := H
    | (with_reducible replace H := sAnd H); obtain ⟨c, H⟩ | ⟨c, H⟩ := H
    | (with_reducible replace H := sOr H); obtain ⟨c, H⟩ | ⟨c, H⟩ := H
   all_goals cases H
   all_goals (replace H0 := Hold.mk H0; have H := H0; clear H0)
   all_goals (
    replace H := H.out
    apply BZm.out
    exact BZm.go)
 · (try simp only [List.length_append, List.length_cons, List.length_nil, Nat.zero_add, beq_dec, bne_dec, Bool.or_eq_true, Bool.and_eq_true, Bool.not_eq_true', decide_eq_true_eq, decide_eq_false_iff_not, ite_or', ite_and', ite_not', ge_iff_le, gt_iff_lt] at H)
   repeat' first
    | (with_reducible replace H := sBindA H (by assumption))
    | (with_reducible replace H := sBindS H)
    | (with_reducible replace H := sBind H); obtain ⟨t, hA, H⟩ := H
    | (with_reducible replace H := sBool H); obtain ⟨c, H⟩ | ⟨c, H⟩ := H
    | (with_reducible replace H := sEq H); obtain ⟨c, c', H⟩ | ⟨c, c', H⟩ := H
    | (with_reducible replace H := sEqL H); obtain ⟨c, H⟩ | ⟨c, H⟩ := H
    | (with_reducible replace H := sIte H); obtain ⟨c, H⟩ | ⟨c, H⟩ := H
    | (with_reducible replace H := sAnd H); obtain ⟨c, H⟩ | ⟨c, H⟩ := H
    | (with_reducible replace H := sOr H); obtain ⟨c, H⟩ | ⟨c, H⟩ := H
   all_goals cases H
   all_goals (replace H0 := Hold.mk H0; have H := H0; clear H0)
   all_goals (
    first
     | (with_reducible replace H := Hold.mk (sBindA H.out (by assumption)))
     | (have H1 := sBind H.out; clear H; obtain ⟨t, hA, H⟩ := H1; replace H := Hold.mk H)
    obtain ⟨H, H0⟩ | ⟨H, H0⟩ := sIteU H.out
    · (try simp only [List.length_append, List.length_cons, List.length_nil, Nat.zero_add, beq_dec, bne_dec, Bool.or_eq_true, Bool.and_eq_true, Bool.not_eq_true', decide_eq_true_eq, decide_eq_false_iff_not, ite_or', ite_and', ite_not', ge_iff_le, gt_iff_lt] at H)
      repeat' first
       | (with_reducible replace H := sBindA H (by assumption))
       | (with_reducible replace H := sBindS H)
       | (with_reducible replace H := sBind H); obtain ⟨t, hA, H⟩ := H
       | (with_reducible replace H := sBool H); obtain ⟨c, H⟩ | ⟨c, H⟩ := H
       | (with_reducible replace H := sEq H); obtain ⟨c, c', H⟩ | ⟨c, c', H⟩ := H
       | (with_reducible replace H := sEqL H); obtain ⟨c, H⟩ | ⟨c, H⟩ := H
       | (with_reducible replace H := sIte H); obtain ⟨c, H⟩ | ⟨c, H⟩ := H
       | (with_reducible replace H := sAnd H); obtain ⟨c, H⟩ | ⟨c, H⟩ := H
       | (with_reducible replace H := sOr H); obtain ⟨c, H⟩ | ⟨c, H⟩ := H
      all_goals cases H
      all_goals (replace H0 := Hold.mk H0; have H := H0; clear H0)
      all_goals (
       replace H := H.out
       apply BZm.out
       exact BZm.go)
    · (try simp only [List.length_append, List.length_cons, List.length_nil, Nat.zero_add, beq_dec, bne_dec, Bool.or_eq_true, Bool.and_eq_true, Bool.not_eq_true', decide_eq_true_eq, decide_eq_false_iff_not, ite_or', ite_and', ite_not', ge_iff_le, gt_iff_lt] at H)
      repeat' first
       | (with_reducible replace H := sBindA H (by assumption))
       | (with_reducible replace H := sBindS H)
       | (with_reducible replace H := sBind H); obtain ⟨t, hA, H⟩ := H
       | (with_reducible replace H := sBool H); obtain ⟨c, H⟩ | ⟨c, H⟩ := H
       | (with_reducible replace H := sEq H); obtain ⟨c, c', H⟩ | ⟨c, c', H⟩ := H
       | (with_reducible replace H := sEqL H); obtain ⟨c, H⟩ | ⟨c, H⟩ := H
       | (with_reducible replace H := sIte H); obtain ⟨c, H⟩ | ⟨c, H⟩ := H
       | (with_reducible replace H := sAnd H); obtain ⟨c, H⟩ | ⟨c, H⟩ := H
       | (with_reducible replace H := sOr H); obtain ⟨c, H⟩ | ⟨c, H⟩ := H
      all_goals cases H
      all_goals (replace H0 := Hold.mk H0; have H := H0; clear H0)
      all_goals (
       first
        | (with_reducible replace H := Hold.mk (sBindA H.out (by assumption)))
        | (have H1 := sBind H.out; clear H; obtain ⟨t, hA, H⟩ := H1; replace H := Hold.mk H)
       first
        | (with_reducible replace H := Hold.mk (sBindA H.out (by assumption)))
        | (have H1 := sBind H.out; clear H; obtain ⟨t, hA, H⟩ := H1; replace H := Hold.mk H)
       first
        | (with_reducible replace H := Hold.mk (sBindA H.out (by assumption)))
        | (have H1 := sBind H.out; clear H; obtain ⟨t, hA, H⟩ := H1; replace H := Hold.mk H)
       first
        | (with_reducible replace H := Hold.mk (sBindA H.out (by assumption)))
        | (have H1 := sBind H.out; clear H; obtain ⟨t, hA, H⟩ := H1; replace H := Hold.mk H)
       first
        | (with_reducible replace H := Hold.mk (sBindA H.out (by assumption)))
        | (have H1 := sBind H.out; clear H; obtain ⟨t, hA, H⟩ := H1; replace H := Hold.mk H)
       first
        | (with_reducible replace H := Hold.mk (sBindA H.out (by assumption)))
        | (have H1 := sBind H.out; clear H; obtain ⟨t, hA, H⟩ := H1; replace H := Hold.mk H)
       first
        | (with_reducible replace H := Hold.mk (sBindA H.out (by assumption)))
        | (have H1 := sBind H.out; clear H; obtain ⟨t, hA, H⟩ := H1; replace H := Hold.mk H)
       obtain ⟨H, H0⟩ | ⟨H, H0⟩ := sIteU H.out
       · (try simp only [List.length_append, List.length_cons, List.length_nil, Nat.zero_add, beq_dec, bne_dec, Bool.or_eq_true, Bool.and_eq_true, Bool.not_eq_true', decide_eq_true_eq, decide_eq_false_iff_not, ite_or', ite_and', ite_not', ge_iff_le, gt_iff_lt] at H)
         repeat' first
          | (with_reducible replace H := sBindA H (by assumption))
          | (with_reducible replace H := sBindS H)
          | (with_reducible replace H := sBind H); obtain ⟨t, hA, H⟩ := H
          | (with_reducible replace H := sBool H); obtain ⟨c, H⟩ | ⟨c, H⟩ := H
          | (with_reducible replace H := sEq H); obtain ⟨c, c', H⟩ | ⟨c, c', H⟩ := H
          | (with_reducible replace H := sEqL H); obtain ⟨c, H⟩ | ⟨c, H⟩ := H
          | (with_reducible replace H := sIte H); obtain ⟨c, H⟩ | ⟨c, H⟩ := H
          | (with_reducible replace H := sAnd H); obtain ⟨c, H⟩ | ⟨c, H⟩ := H
          | (with_reducible replace H := sOr H); obtain ⟨c, H⟩ | ⟨c, H⟩ := H
         all_goals cases H
         all_goals (replace H0 := Hold.mk H0; have H := H0; clear H0)
         all_goals (
          first
           | (with_reducible replace H := Hold.mk (sBindA H.out (by assumption)))
           | (have H1 := sBind H.out; clear H; obtain ⟨t, hA, H⟩ := H1; replace H := Hold.mk H)
          first
           | (with_reducible replace H := Hold.mk (sBindA H.out (by assumption)))
           | (have H1 := sBind H.out; clear H; obtain ⟨t, hA, H⟩ := H1; replace H := Hold.mk H)
          obtain ⟨H, H0⟩ | ⟨H, H0⟩ := sIteU H.out
          · (try simp only [List.length_append, List.length_cons, List.length_nil, Nat.zero_add, beq_dec, bne_dec, Bool.or_eq_true, Bool.and_eq_true, Bool.not_eq_true', decide_eq_true_eq, decide_eq_false_iff_not, ite_or', ite_and', ite_not', ge_iff_le, gt_iff_lt] at H)
            repeat' first
             | (with_reducible replace H := sBindA H (by assumption))
             | (with_reducible replace H := sBindS H)
             | (with_reducible replace H := sBind H); obtain ⟨t, hA, H⟩ := H
             | (with_reducible replace H := sBool H); obtain ⟨c, H⟩ | ⟨c, H⟩ := H
             | (with_reducible replace H := sEq H); obtain ⟨c, c', H⟩ | ⟨c, c', H⟩ := H
             | (with_reducible replace H := sEqL H); obtain ⟨c, H⟩ | ⟨c, H⟩ := H
             | (with_reducible replace H := sIte H); obtain ⟨c, H⟩ | ⟨c, H⟩ := H
             | (with_reducible replace H := sAnd H); obtain ⟨c, H⟩ | ⟨c, H⟩ := H
             | (with_reducible replace H := sOr H); obtain ⟨c, H⟩ | ⟨c, H⟩ := H
            all_goals cases H
            all_goals (replace H0 := Hold.mk H0; have H := H0; clear H0)
            all_goals (
             first
              | (with_reducible replace H := Hold.mk (sBindA H.out (by assumption)))
              | (have H1 := sBind H.out; clear H; obtain ⟨t, hA, H⟩ := H1; replace H := Hold.mk H)
             first
              | (with_reducible replace H := Hold.mk (sBindA H.out (by assumption)))
              | (have H1 := sBind H.out; clear H; obtain ⟨t, hA, H⟩ := H1; replace H := Hold.mk H)
             obtain ⟨H, H0⟩ | ⟨H, H0⟩ := sIteU H.out
             · (try simp only [List.length_append, List.length_cons, List.length_nil, Nat.zero_add, beq_dec, bne_dec, Bool.or_eq_true, Bool.and_eq_true, Bool.not_eq_true', decide_eq_true_eq, decide_eq_false_iff_not, ite_or', ite_and', ite_not', ge_iff_le, gt_iff_lt] at H)
               repeat' first
                | (with_reducible replace H := sBindA H (by assumption))
                | (with_reducible replace H := sBindS H)
                | (with_reducible replace H := sBind H); obtain ⟨t, hA, H⟩ := H
                | (with_reducible replace H := sBool H); obtain ⟨c, H⟩ | ⟨c, H⟩ := H
                | (with_reducible replace H := sEq H); obtain ⟨c, c', H⟩ | ⟨c, c', H⟩ := H
                | (with_reducible replace H := sEqL H); obtain ⟨c, H⟩ | ⟨c, H⟩ := H
                | (with_reducible replace H := sIte H); obtain ⟨c, H⟩ | ⟨c, H⟩ := H
                | (with_reducible replace H := sAnd H); obtain ⟨c, H⟩ | ⟨c, H⟩ := H
                | (with_reducible replace H := sOr H); obtain ⟨c, H⟩ | ⟨c, H⟩ := H
               all_goals cases H
               all_goals (replace H0 := Hold.mk H0; have H := H0; clear H0)
               all_goals (
                first
                 | (with_reducible replace H := Hold.mk (sBindA H.out (by assumption)))
                 | (have H1 := sBind H.out; clear H; obtain ⟨t, hA, H⟩ := H1; replace H := Hold.mk H)
                first
                 | (with_reducible replace H := Hold.mk (sBindA H.out (by assumption)))
                 | (have H1 := sBind H.out; clear H; obtain ⟨t, hA, H⟩ := H1; replace H := Hold.mk H)
                have m0 : LM 2 21 [2, 3, 6, 9, 63] (fun X => ∃ x63, ∃ x795000, ∃ x795001, ∃ x795002, ∃ x796000, ∃ x796001, ∃ x796002, ∃ x796003, ∃ x828000, ∃ x828001, ∃ x828002, ∃ x828003, ∃ x860000, ∃ x860001, ∃ x860002, ∃ x860003, ∃ q, X = ⟨[(2, .pl 0 none 0), (3, .pl 1 none 0), (6, .pl 2 none 0), (9, .pl 3 none 0), (63, .dat false [.sc (.bool x63)])], [(0, .mem [.sl none 6 (List.flatMap e99 x795000), .sl none 4 (List.flatMap e103 x795001), .sl none 4 (List.flatMap e106 x795002)]), (1, .mem [.sl none 1 (List.flatMap eI x796000), .sl none 1 (List.flatMap eS x796001), .sl none 1 (List.flatMap eI x796002), .sc (.int .i64 x796003)]), (2, .mem [.sl (some 0) 1 (List.flatMap eI x828000), .sl (some 0) 1 (List.flatMap eS x828001), .sl (some 0) 1 (List.flatMap eI x828002), .sc (.int .i64 x828003)]), (3, .mem [.sl (some 0) 1 (List.flatMap eI x860000), .sl (some 0) 1 (List.flatMap eS x860001), .sl (some 0) 1 (List.flatMap eI x860002), .sc (.int .i64 x860003)])]⟩ ∧ q ≤ k ∧ laws_FnExactStepThread.j0 q x63 x795000 x795001 x795002 x796000 x796001 x796002 x796003 x828000 x828001 x828002 x828003 x860000 x860001 x860002 x860003 = some r) := ⟨⟩
                apply late
                · intro pa0
                  apply late
                  · intro pb0
                    apply BZcm.out
                    exact BZcm.go
                  · clear H
                    intro X hJ
                    obtain ⟨x63, x795000, x795001, x795002, x796000, x796001, x796002, x796003, x828000, x828001, x828002, x828003, x860000, x860001, x860002, x860003, q1, rfl, hq, H⟩ := hJ
                    cases q1 with
                    | zero => (simp only [laws_FnExactStepThread.j0] at H; cases H)
                    | succ kq1 =>
                     simp only [laws_FnExactStepThread.j0] at H
                     apply BZnm.out
                     exact BZnm.go
                · intro hj0
                  replace H := H.out
                  apply BZm.out
                  exact BZm.go)
             · (try simp only [List.length_append, List.length_cons, List.length_nil, Nat.zero_add, beq_dec, bne_dec, Bool.or_eq_true, Bool.and_eq_true, Bool.not_eq_true', decide_eq_true_eq, decide_eq_false_iff_not, ite_or', ite_and', ite_not', ge_iff_le, gt_iff_lt] at H)
               repeat' first
                | (with_reducible replace H := sBindA H (by assumption))
                | (with_reducible replace H := sBindS H)
                | (with_reducible replace H := sBind H); obtain ⟨t, hA, H⟩ := H
                | (with_reducible replace H := sBool H); obtain ⟨c, H⟩ | ⟨c, H⟩ := H
                | (with_reducible replace H := sEq H); obtain ⟨c, c', H⟩ | ⟨c, c', H⟩ := H
                | (with_reducible replace H := sEqL H); obtain ⟨c, H⟩ | ⟨c, H⟩ := H
                | (with_reducible replace H := sIte H); obtain ⟨c, H⟩ | ⟨c, H⟩ := H
                | (with_reducible replace H := sAnd H); obtain ⟨c, H⟩ | ⟨c, H⟩ := H
                | (with_reducible replace H := sOr H); obtain ⟨c, H⟩ | ⟨c, H⟩ := H
               all_goals cases H
               all_goals (replace H0 := Hold.mk H0; have H := H0; clear H0)
               all_goals (
                replace H := H.out
                apply BZm.out
                exact BZm.go))
          · (try simp only [List.length_append, List.length_cons, List.length_nil, Nat.zero_add, beq_dec, bne_dec, Bool.or_eq_true, Bool.and_eq_true, Bool.not_eq_true', decide_eq_true_eq, decide_eq_false_iff_not, ite_or', ite_and', ite_not', ge_iff_le, gt_iff_lt] at H)
            repeat' first
             | (with_reducible replace H := sBindA H (by assumption))
             | (with_reducible replace H := sBindS H)
             | (with_reducible replace H := sBind H); obtain ⟨t, hA, H⟩ := H
             | (with_reducible replace H := sBool H); obtain ⟨c, H⟩ | ⟨c, H⟩ := H
             | (with_reducible replace H := sEq H); obtain ⟨c, c', H⟩ | ⟨c, c', H⟩ := H
             | (with_reducible replace H := sEqL H); obtain ⟨c, H⟩ | ⟨c, H⟩ := H
             | (with_reducible replace H := sIte H); obtain ⟨c, H⟩ | ⟨c, H⟩ := H
             | (with_reducible replace H := sAnd H); obtain ⟨c, H⟩ | ⟨c, H⟩ := H
             | (with_reducible replace H := sOr H); obtain ⟨c, H⟩ | ⟨c, H⟩ := H
            all_goals cases H
            all_goals (replace H0 := Hold.mk H0; have H := H0; clear H0)
            all_goals (
             replace H := H.out
             apply BZm.out
             exact BZm.go))
       · (try simp only [List.length_append, List.length_cons, List.length_nil, Nat.zero_add, beq_dec, bne_dec, Bool.or_eq_true, Bool.and_eq_true, Bool.not_eq_true', decide_eq_true_eq, decide_eq_false_iff_not, ite_or', ite_and', ite_not', ge_iff_le, gt_iff_lt] at H)
         repeat' first
          | (with_reducible replace H := sBindA H (by assumption))
          | (with_reducible replace H := sBindS H)
          | (with_reducible replace H := sBind H); obtain ⟨t, hA, H⟩ := H
          | (with_reducible replace H := sBool H); obtain ⟨c, H⟩ | ⟨c, H⟩ := H
          | (with_reducible replace H := sEq H); obtain ⟨c, c', H⟩ | ⟨c, c', H⟩ := H
          | (with_reducible replace H := sEqL H); obtain ⟨c, H⟩ | ⟨c, H⟩ := H
          | (with_reducible replace H := sIte H); obtain ⟨c, H⟩ | ⟨c, H⟩ := H
          | (with_reducible replace H := sAnd H); obtain ⟨c, H⟩ | ⟨c, H⟩ := H
          | (with_reducible replace H := sOr H); obtain ⟨c, H⟩ | ⟨c, H⟩ := H
         all_goals cases H
         all_goals (replace H0 := Hold.mk H0; have H := H0; clear H0)
         all_goals (
          replace H := H.out
          apply BZm.out
          exact BZm.go)))
end Go.Proofs.YtjjhknklnclokaaGreat.PFnExactStepThread
