/- Functions' walks: each computes what its plain form says. No condition. -/
import Derived.Test.YtmbkcbgbienjoaaLkFnExactNodesUnderh
import Derived.Test.YtmbkcbgbienjoaaLkFnExactNodesUndera
import Derived.Test.YtmbkcbgbienjoaaLkFnExactNodesUnderb
import Derived.Test.YtmbkcbgbienjoaaLkFnExactNodesUnderc
import Derived.Test.YtmbkcbgbienjoaaLkFnExactNodesUndere
import Derived.Test.YtmbkcbgbienjoaaLkFnExactNodesUnderi
open Go Go.Proofs Go.Proofs.Ytmbkcbgbienjoaa.Abs
namespace Go.Proofs.Ytmbkcbgbienjoaa.PFnExactNodesUnder
open Go.RowKit Go.Proofs.YtmbkcbgbienjoaaW.PrintWords Go.Proofs.YtmbkcbgbienjoaaW.PrintLast Go.Proofs.YtmbkcbgbienjoaaW.PrintMore
set_option linter.unusedVariables false
set_option linter.unusedSimpArgs false
set_option maxRecDepth 100000
attribute [local irreducible] evK evQ evM evF evW evH goE goK goKD goQ goQD goD Ok ACalls
set_option maxHeartbeats 8000000 in
theorem laws_FnExactNodesUnder.link {k : Nat} {l0_0 : List (S113)} {l0_1 : List (S117)} {l0_2 : List (S119)} {a1 : Int} {r : Bool} (H : laws_FnExactNodesUnder.f k l0_0 l0_1 l0_2 a1 = some r) : ACalls Try.prog 9 [.dat true [.sl none 6 (List.flatMap e113 l0_0), .sl none 4 (List.flatMap e117 l0_1), .sl none 4 (List.flatMap e119 l0_2)], .dat false [.sc (.int .i64 a1)]] [(false, [.sc (.bool r)])] [.dat true [.sl none 6 (List.flatMap e113 l0_0), .sl none 4 (List.flatMap e117 l0_1), .sl none 4 (List.flatMap e119 l0_2)], .dat false [.sc (.int .i64 a1)]] := by
 refine ACalls.en Try.func9 Try.ntmps9 .go .go .go .go ?_
 intro C F hC hP hF hn (hx : C.fx = [])
 have kp : KL [0, 1, 2, 4, 5, 6, 7, 8, 9, 10, 11, 12, 17, 30, 35, 46, 54, 57, 65, 70, 73] := ⟨⟩
 have kr : KR #[.tmp 4] := ⟨⟩
 have kd0 : KD 10 (noneL [0, 1] ++ ((2, some [0]) :: ((3, some []) :: (noneL [4] ++ [])))) := ⟨⟩
 have c0 := Hold.mk @laws_szProgram.link
 have c1 := Hold.mk @laws_toProgram.link
 have c2 := Hold.mk @laws_eqIntS.link
 have c3 := Hold.mk @laws_eqProgram.link
 have c4 := Hold.mk @laws_heldIntS.link
 have c5 := Hold.mk @spec_NodesUnder.link
 have c6 := Hold.mk @impl_NodesUnder.link
 have d0 := Hold.mk @laws_markIntS.link
 have d1 := Hold.mk @laws_markProgram.link
 simp only [laws_FnExactNodesUnder.f] at H
 replace H := Hold.mk H
 first
  | (with_reducible replace H := Hold.mk (sBindA H.out (by assumption)))
  | (have H1 := sBind H.out; clear H; obtain ⟨t, hA, H⟩ := H1; replace H := Hold.mk H)
 obtain ⟨H, H0⟩ | ⟨H, H0⟩ := sIteU H.out
 · (try simp only [List.length_append, List.length_cons, List.length_nil, Nat.zero_add, beq_dec, bne_dec, Bool.or_eq_true, Bool.and_eq_true, Bool.not_eq_true', decide_eq_true_eq, decide_eq_false_iff_not, ite_or', ite_and', ite_not', ge_iff_le, gt_iff_lt] at H)
   repeat' first
    | (with_reducible replace H := sBindA H (by assumption))
    | (with_reducible replace H := sBindS H)
    | (with_reducible replace H := sBind H); obtain ⟨t, hA, H⟩ := H
    | (with_reducible replace H := sBool H); obtain ⟨c, H⟩ | ⟨c, H⟩ := H
    | (with_reducible replace H := sEq H); obtain ⟨c, c', H⟩ | ⟨c, c', H⟩ := H
    | (with_reducible replace H := sEqL H); obtain ⟨c, H⟩ | ⟨c, H⟩ := H
    | (with_reducible replace H := sIte H); obtain ⟨c, H⟩ | ⟨c, H⟩ := H
    | (with_reducible replace H := sAnd H); obtain ⟨c, H⟩ | ⟨c, H⟩ := H
    | (with_reducible replace H := sOr H); obtain ⟨c, H⟩ | ⟨c, H⟩ := H
   all_goals cases H
   all_goals (replace H0 := Hold.mk H0; have H := H0; clear H0)
   all_goals (
    replace H := H.out
    apply BZm.out
    exact BZm.go)
 · (try simp only [List.length_append, List.length_cons, List.length_nil, Nat.zero_add, beq_dec, bne_dec, Bool.or_eq_true, Bool.and_eq_true, Bool.not_eq_true', decide_eq_true_eq, decide_eq_false_iff_not, ite_or', ite_and', ite_not', ge_iff_le, gt_iff_lt] at H)
   repeat' first
    | (with_reducible replace H := sBindA H (by assumption))
    | (with_reducible replace H := sBindS H)
    | (with_reducible replace H := sBind H); obtain ⟨t, hA, H⟩ := H
    | (with_reducible replace H := sBool H); obtain ⟨c, H⟩ | ⟨c, H⟩ := H
    | (with_reducible replace H := sEq H); obtain ⟨c, c', H⟩ | ⟨c, c', H⟩ := H
    | (with_reducible replace H := sEqL H); obtain ⟨c, H⟩ | ⟨c, H⟩ := H
    | (with_reducible replace H := sIte H); obtain ⟨c, H⟩ | ⟨c, H⟩ := H
    | (with_reducible replace H := sAnd H); obtain ⟨c, H⟩ | ⟨c, H⟩ := H
    | (with_reducible replace H := sOr H); obtain ⟨c, H⟩ | ⟨c, H⟩ := H
   all_goals cases H
   all_goals (replace H0 := Hold.mk H0; have H := H0; clear H0)
   all_goals (
    first
     | (with_reducible replace H := Hold.mk (sBindA H.out (by assumption)))
     | (have H1 := sBind H.out; clear H; obtain ⟨t, hA, H⟩ := H1; replace H := Hold.mk H)
    first
     | (with_reducible replace H := Hold.mk (sBindA H.out (by assumption)))
     | (have H1 := sBind H.out; clear H; obtain ⟨t, hA, H⟩ := H1; replace H := Hold.mk H)
    first
     | (with_reducible replace H := Hold.mk (sBindA H.out (by assumption)))
     | (have H1 := sBind H.out; clear H; obtain ⟨t, hA, H⟩ := H1; replace H := Hold.mk H)
    first
     | (with_reducible replace H := Hold.mk (sBindA H.out (by assumption)))
     | (have H1 := sBind H.out; clear H; obtain ⟨t, hA, H⟩ := H1; replace H := Hold.mk H)
    first
     | (with_reducible replace H := Hold.mk (sBindA H.out (by assumption)))
     | (have H1 := sBind H.out; clear H; obtain ⟨t, hA, H⟩ := H1; replace H := Hold.mk H)
    obtain ⟨H, H0⟩ | ⟨H, H0⟩ := sIteU H.out
    · (try simp only [List.length_append, List.length_cons, List.length_nil, Nat.zero_add, beq_dec, bne_dec, Bool.or_eq_true, Bool.and_eq_true, Bool.not_eq_true', decide_eq_true_eq, decide_eq_false_iff_not, ite_or', ite_and', ite_not', ge_iff_le, gt_iff_lt] at H)
      repeat' first
       | (with_reducible replace H := sBindA H (by assumption))
       | (with_reducible replace H := sBindS H)
       | (with_reducible replace H := sBind H); obtain ⟨t, hA, H⟩ := H
       | (with_reducible replace H := sBool H); obtain ⟨c, H⟩ | ⟨c, H⟩ := H
       | (with_reducible replace H := sEq H); obtain ⟨c, c', H⟩ | ⟨c, c', H⟩ := H
       | (with_reducible replace H := sEqL H); obtain ⟨c, H⟩ | ⟨c, H⟩ := H
       | (with_reducible replace H := sIte H); obtain ⟨c, H⟩ | ⟨c, H⟩ := H
       | (with_reducible replace H := sAnd H); obtain ⟨c, H⟩ | ⟨c, H⟩ := H
       | (with_reducible replace H := sOr H); obtain ⟨c, H⟩ | ⟨c, H⟩ := H
      all_goals cases H
      all_goals (replace H0 := Hold.mk H0; have H := H0; clear H0)
      all_goals (
       first
        | (with_reducible replace H := Hold.mk (sBindA H.out (by assumption)))
        | (have H1 := sBind H.out; clear H; obtain ⟨t, hA, H⟩ := H1; replace H := Hold.mk H)
       first
        | (with_reducible replace H := Hold.mk (sBindA H.out (by assumption)))
        | (have H1 := sBind H.out; clear H; obtain ⟨t, hA, H⟩ := H1; replace H := Hold.mk H)
       obtain ⟨H, H0⟩ | ⟨H, H0⟩ := sIteU H.out
       · (try simp only [List.length_append, List.length_cons, List.length_nil, Nat.zero_add, beq_dec, bne_dec, Bool.or_eq_true, Bool.and_eq_true, Bool.not_eq_true', decide_eq_true_eq, decide_eq_false_iff_not, ite_or', ite_and', ite_not', ge_iff_le, gt_iff_lt] at H)
         repeat' first
          | (with_reducible replace H := sBindA H (by assumption))
          | (with_reducible replace H := sBindS H)
          | (with_reducible replace H := sBind H); obtain ⟨t, hA, H⟩ := H
          | (with_reducible replace H := sBool H); obtain ⟨c, H⟩ | ⟨c, H⟩ := H
          | (with_reducible replace H := sEq H); obtain ⟨c, c', H⟩ | ⟨c, c', H⟩ := H
          | (with_reducible replace H := sEqL H); obtain ⟨c, H⟩ | ⟨c, H⟩ := H
          | (with_reducible replace H := sIte H); obtain ⟨c, H⟩ | ⟨c, H⟩ := H
          | (with_reducible replace H := sAnd H); obtain ⟨c, H⟩ | ⟨c, H⟩ := H
          | (with_reducible replace H := sOr H); obtain ⟨c, H⟩ | ⟨c, H⟩ := H
         all_goals cases H
         all_goals (replace H0 := Hold.mk H0; have H := H0; clear H0)
         all_goals (
          first
           | (with_reducible replace H := Hold.mk (sBindA H.out (by assumption)))
           | (have H1 := sBind H.out; clear H; obtain ⟨t, hA, H⟩ := H1; replace H := Hold.mk H)
          have m0 : LM 2 14 [1, 2, 6, 8, 46] (fun X => ∃ x1, ∃ x6, ∃ x8, ∃ x46, ∃ x496000, ∃ x496001, ∃ x496002, ∃ q, X = ⟨[(1, .dat false [.sc (.int .i64 x1)]), (2, .pl 0 none 0), (6, .bor 1 none 0 1 false), (8, .bor 2 none 0 1 false), (46, .dat false [.sc (.bool x46)])], [(0, .mem [.sl none 6 (List.flatMap e113 x496000), .sl none 4 (List.flatMap e117 x496001), .sl none 4 (List.flatMap e119 x496002)]), (1, .vir [.sl (some 0) 1 (List.flatMap eI x6)]), (2, .vir [.sl (some 0) 1 (List.flatMap eI x8)])]⟩ ∧ q ≤ k ∧ laws_FnExactNodesUnder.j0 q x1 x6 x8 x46 x496000 x496001 x496002 = some r) := ⟨⟩
          apply late
          · intro pa0
            apply late
            · intro pb0
              apply BZcm.out
              exact BZcm.go
            · clear H
              intro X hJ
              obtain ⟨x1, x6, x8, x46, x496000, x496001, x496002, q1, rfl, hq, H⟩ := hJ
              cases q1 with
              | zero => (simp only [laws_FnExactNodesUnder.j0] at H; cases H)
              | succ kq1 =>
               simp only [laws_FnExactNodesUnder.j0] at H
               apply BZnm.out
               exact BZnm.go
          · intro hj0
            replace H := H.out
            apply BZm.out
            exact BZm.go)
       · (try simp only [List.length_append, List.length_cons, List.length_nil, Nat.zero_add, beq_dec, bne_dec, Bool.or_eq_true, Bool.and_eq_true, Bool.not_eq_true', decide_eq_true_eq, decide_eq_false_iff_not, ite_or', ite_and', ite_not', ge_iff_le, gt_iff_lt] at H)
         repeat' first
          | (with_reducible replace H := sBindA H (by assumption))
          | (with_reducible replace H := sBindS H)
          | (with_reducible replace H := sBind H); obtain ⟨t, hA, H⟩ := H
          | (with_reducible replace H := sBool H); obtain ⟨c, H⟩ | ⟨c, H⟩ := H
          | (with_reducible replace H := sEq H); obtain ⟨c, c', H⟩ | ⟨c, c', H⟩ := H
          | (with_reducible replace H := sEqL H); obtain ⟨c, H⟩ | ⟨c, H⟩ := H
          | (with_reducible replace H := sIte H); obtain ⟨c, H⟩ | ⟨c, H⟩ := H
          | (with_reducible replace H := sAnd H); obtain ⟨c, H⟩ | ⟨c, H⟩ := H
          | (with_reducible replace H := sOr H); obtain ⟨c, H⟩ | ⟨c, H⟩ := H
         all_goals cases H
         all_goals (replace H0 := Hold.mk H0; have H := H0; clear H0)
         all_goals (
          replace H := H.out
          apply BZm.out
          exact BZm.go))
    · (try simp only [List.length_append, List.length_cons, List.length_nil, Nat.zero_add, beq_dec, bne_dec, Bool.or_eq_true, Bool.and_eq_true, Bool.not_eq_true', decide_eq_true_eq, decide_eq_false_iff_not, ite_or', ite_and', ite_not', ge_iff_le, gt_iff_lt] at H)
      repeat' first
       | (with_reducible replace H := sBindA H (by assumption))
       | (with_reducible replace H := sBindS H)
       | (with_reducible replace H := sBind H); obtain ⟨t, hA, H⟩ := H
       | (with_reducible replace H := sBool H); obtain ⟨c, H⟩ | ⟨c, H⟩ := H
       | (with_reducible replace H := sEq H); obtain ⟨c, c', H⟩ | ⟨c, c', H⟩ := H
       | (with_reducible replace H := sEqL H); obtain ⟨c, H⟩ | ⟨c, H⟩ := H
       | (with_reducible replace H := sIte H); obtain ⟨c, H⟩ | ⟨c, H⟩ := H
       | (with_reducible replace H := sAnd H); obtain ⟨c, H⟩ | ⟨c, H⟩ := H
       | (with_reducible replace H := sOr H); obtain ⟨c, H⟩ | ⟨c, H⟩ := H
      all_goals cases H
      all_goals (replace H0 := Hold.mk H0; have H := H0; clear H0)
      all_goals (
       replace H := H.out
       apply BZm.out
       exact BZm.go))
end Go.Proofs.Ytmbkcbgbienjoaa.PFnExactNodesUnder
