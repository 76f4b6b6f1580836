/- Functions' walks: each computes what its plain form says. No condition. -/
import Derived.Test.YtjjhknklnclokaaLkFnExactValueAth
import Derived.Test.YtjjhknklnclokaaLkFnExactValueAta
import Derived.Test.YtjjhknklnclokaaLkFnExactValueAtd
import Derived.Test.YtjjhknklnclokaaLkFnExactValueAtj
open Go Go.Proofs Go.Proofs.Ytjjhknklnclokaa.Abs
namespace Go.Proofs.Ytjjhknklnclokaa.PFnExactValueAt
open Go.RowKit Go.Proofs.YtjjhknklnclokaaW.PrintWords Go.Proofs.YtjjhknklnclokaaW.PrintLast Go.Proofs.YtjjhknklnclokaaW.PrintMore
set_option linter.unusedVariables false
set_option linter.unusedSimpArgs false
set_option maxRecDepth 100000
attribute [local irreducible] evK evQ evM evF evW evH goE goK goKD goQ goQD goD Ok ACalls
set_option maxHeartbeats 8000000 in
theorem laws_eqThread.link {k : Nat} {l0_0 : List Int} {l0_1 : List ByteArray} {l0_2 : List Int} {a0_3 : Int} {l1_0 : List Int} {l1_1 : List ByteArray} {l1_2 : List Int} {a1_3 : Int} {r : Bool} (H : laws_eqThread.f k l0_0 l0_1 l0_2 a0_3 l1_0 l1_1 l1_2 a1_3 = some r) : ACalls Try.prog 11 [.dat true [.sl none 1 (List.flatMap eI l0_0), .sl none 1 (List.flatMap eS l0_1), .sl none 1 (List.flatMap eI l0_2), .sc (.int .i64 a0_3)], .dat true [.sl none 1 (List.flatMap eI l1_0), .sl none 1 (List.flatMap eS l1_1), .sl none 1 (List.flatMap eI l1_2), .sc (.int .i64 a1_3)]] [(false, [.sc (.bool r)])] [.dat true [.sl none 1 (List.flatMap eI l0_0), .sl none 1 (List.flatMap eS l0_1), .sl none 1 (List.flatMap eI l0_2), .sc (.int .i64 a0_3)], .dat true [.sl none 1 (List.flatMap eI l1_0), .sl none 1 (List.flatMap eS l1_1), .sl none 1 (List.flatMap eI l1_2), .sc (.int .i64 a1_3)]] := by
 refine ACalls.en Try.func11 Try.ntmps11 .go .go .go .go ?_
 intro C F hC hP hF hn (hx : C.fx = [])
 have kp : KL [0, 1, 2, 3, 4, 10, 16, 21] := ⟨⟩
 have kr : KR #[.tmp 4] := ⟨⟩
 have c0 := Hold.mk @laws_eqIntS.link
 have c1 := Hold.mk @laws_eqEnv.link
 simp only [laws_eqThread.f] at H
 apply BZ.out
 exact BZ.go
set_option maxHeartbeats 8000000 in
theorem laws_FnExactValueAt.link {k : Nat} {l0_0 : List (S72)} {l0_1 : List (S76)} {l0_2 : List (S79)} {l1_0 : List Int} {l1_1 : List ByteArray} {l1_2 : List Int} {a1_3 : Int} {r : Bool} (H : laws_FnExactValueAt.f k l0_0 l0_1 l0_2 l1_0 l1_1 l1_2 a1_3 = some r) : ACalls Try.prog 3 [.dat true [.sl none 6 (List.flatMap e72 l0_0), .sl none 4 (List.flatMap e76 l0_1), .sl none 4 (List.flatMap e79 l0_2)], .dat true [.sl none 1 (List.flatMap eI l1_0), .sl none 1 (List.flatMap eS l1_1), .sl none 1 (List.flatMap eI l1_2), .sc (.int .i64 a1_3)]] [(false, [.sc (.bool r)])] [.dat true [.sl none 6 (List.flatMap e72 l0_0), .sl none 4 (List.flatMap e76 l0_1), .sl none 4 (List.flatMap e79 l0_2)], .dat true [.sl none 1 (List.flatMap eI l1_0), .sl none 1 (List.flatMap eS l1_1), .sl none 1 (List.flatMap eI l1_2), .sc (.int .i64 a1_3)]] := by
 refine ACalls.en Try.func3 Try.ntmps3 .go .go .go .go ?_
 intro C F hC hP hF hn (hx : C.fx = [])
 have kp : KL [0, 1, 2, 3, 4, 5, 6, 7, 8, 9, 10, 11, 16, 21, 47, 52, 57] := ⟨⟩
 have kr : KR #[.tmp 4] := ⟨⟩
 have kd0 : KD 8 (noneL [0, 2] ++ ((1, some [2]) :: ((3, some []) :: ((4, some []) :: (noneL [5, 6, 7, 8, 9] ++ []))))) := ⟨⟩
 have kd1 : KD 14 (noneL [0, 1] ++ ((2, some [0]) :: ((3, some []) :: (noneL [4] ++ [])))) := ⟨⟩
 have kd2 : KD 16 (noneL [0, 1] ++ ((2, some [0]) :: ((3, some []) :: (noneL [4] ++ [])))) := ⟨⟩
 have c0 := Hold.mk @laws_szProgram.link
 have c1 := Hold.mk @laws_szThread.link
 have c2 := Hold.mk @spec_ValueAt.link
 have c3 := Hold.mk @laws_toProgram.link
 have c4 := Hold.mk @laws_toThread.link
 have c5 := Hold.mk @impl_ValueAt.link
 have c6 := Hold.mk @laws_eqProgram.link
 have c7 := Hold.mk @laws_eqThread.link
 simp only [laws_FnExactValueAt.f] at H
 replace H := Hold.mk H
 first
  | (with_reducible replace H := Hold.mk (sBindA H.out (by assumption)))
  | (have H1 := sBind H.out; clear H; obtain ⟨t, hA, H⟩ := H1; replace H := Hold.mk H)
 obtain ⟨H, H0⟩ | ⟨H, H0⟩ := sIteU H.out
 · (try simp only [List.length_append, List.length_cons, List.length_nil, Nat.zero_add, beq_dec, bne_dec, Bool.or_eq_true, Bool.and_eq_true, Bool.not_eq_true', decide_eq_true_eq, decide_eq_false_iff_not, ite_or', ite_and', ite_not', ge_iff_le, gt_iff_lt] at H)
   repeat' first
    | (with_reducible replace H := sBindA H (by assumption))
    | (with_reducible replace H := sBindS H)
    | (with_reducible replace H := sBind H); obtain ⟨t, hA, H⟩ := H
    | (with_reducible replace H := sBool H); obtain ⟨c, H⟩ | ⟨c, H⟩ := H
    | (with_reducible replace H := sEq H); obtain ⟨c, c', H⟩ | ⟨c, c', H⟩ := H
    | (with_reducible replace H := sEqL H); obtain ⟨c, H⟩ | ⟨c, H⟩ := H
    | (with_reducible replace H := sIte H); obtain ⟨c, H⟩ | ⟨c, H⟩ := H
    | (with_reducible replace H := sAnd H); obtain ⟨c, H⟩ | ⟨c, H⟩ := H
    | (with_reducible replace H := sOr H); obtain ⟨c, H⟩ | ⟨c, H⟩ := H
   all_goals cases H
   all_goals (replace H0 := Hold.mk H0; have H := H0; clear H0)
   all_goals (
    replace H := H.out
    apply BZ.out
    exact BZ.go)
 · (try simp only [List.length_append, List.length_cons, List.length_nil, Nat.zero_add, beq_dec, bne_dec, Bool.or_eq_true, Bool.and_eq_true, Bool.not_eq_true', decide_eq_true_eq, decide_eq_false_iff_not, ite_or', ite_and', ite_not', ge_iff_le, gt_iff_lt] at H)
   repeat' first
    | (with_reducible replace H := sBindA H (by assumption))
    | (with_reducible replace H := sBindS H)
    | (with_reducible replace H := sBind H); obtain ⟨t, hA, H⟩ := H
    | (with_reducible replace H := sBool H); obtain ⟨c, H⟩ | ⟨c, H⟩ := H
    | (with_reducible replace H := sEq H); obtain ⟨c, c', H⟩ | ⟨c, c', H⟩ := H
    | (with_reducible replace H := sEqL H); obtain ⟨c, H⟩ | ⟨c, H⟩ := H
    | (with_reducible replace H := sIte H); obtain ⟨c, H⟩ | ⟨c, H⟩ := H
    | (with_reducible replace H := sAnd H); obtain ⟨c, H⟩ | ⟨c, H⟩ := H
    | (with_reducible replace H := sOr H); obtain ⟨c, H⟩ | ⟨c, H⟩ := H
   all_goals cases H
   all_goals (replace H0 := Hold.mk H0; have H := H0; clear H0)
   all_goals (
    first
     | (with_reducible replace H := Hold.mk (sBindA H.out (by assumption)))
     | (have H1 := sBind H.out; clear H; obtain ⟨t, hA, H⟩ := H1; replace H := Hold.mk H)
    obtain ⟨H, H0⟩ | ⟨H, H0⟩ := sIteU H.out
    · (try simp only [List.length_append, List.length_cons, List.length_nil, Nat.zero_add, beq_dec, bne_dec, Bool.or_eq_true, Bool.and_eq_true, Bool.not_eq_true', decide_eq_true_eq, decide_eq_false_iff_not, ite_or', ite_and', ite_not', ge_iff_le, gt_iff_lt] at H)
      repeat' first
       | (with_reducible replace H := sBindA H (by assumption))
       | (with_reducible replace H := sBindS H)
       | (with_reducible replace H := sBind H); obtain ⟨t, hA, H⟩ := H
       | (with_reducible replace H := sBool H); obtain ⟨c, H⟩ | ⟨c, H⟩ := H
       | (with_reducible replace H := sEq H); obtain ⟨c, c', H⟩ | ⟨c, c', H⟩ := H
       | (with_reducible replace H := sEqL H); obtain ⟨c, H⟩ | ⟨c, H⟩ := H
       | (with_reducible replace H := sIte H); obtain ⟨c, H⟩ | ⟨c, H⟩ := H
       | (with_reducible replace H := sAnd H); obtain ⟨c, H⟩ | ⟨c, H⟩ := H
       | (with_reducible replace H := sOr H); obtain ⟨c, H⟩ | ⟨c, H⟩ := H
      all_goals cases H
      all_goals (replace H0 := Hold.mk H0; have H := H0; clear H0)
      all_goals (
       replace H := H.out
       apply BZ.out
       exact BZ.go)
    · (try simp only [List.length_append, List.length_cons, List.length_nil, Nat.zero_add, beq_dec, bne_dec, Bool.or_eq_true, Bool.and_eq_true, Bool.not_eq_true', decide_eq_true_eq, decide_eq_false_iff_not, ite_or', ite_and', ite_not', ge_iff_le, gt_iff_lt] at H)
      repeat' first
       | (with_reducible replace H := sBindA H (by assumption))
       | (with_reducible replace H := sBindS H)
       | (with_reducible replace H := sBind H); obtain ⟨t, hA, H⟩ := H
       | (with_reducible replace H := sBool H); obtain ⟨c, H⟩ | ⟨c, H⟩ := H
       | (with_reducible replace H := sEq H); obtain ⟨c, c', H⟩ | ⟨c, c', H⟩ := H
       | (with_reducible replace H := sEqL H); obtain ⟨c, H⟩ | ⟨c, H⟩ := H
       | (with_reducible replace H := sIte H); obtain ⟨c, H⟩ | ⟨c, H⟩ := H
       | (with_reducible replace H := sAnd H); obtain ⟨c, H⟩ | ⟨c, H⟩ := H
       | (with_reducible replace H := sOr H); obtain ⟨c, H⟩ | ⟨c, H⟩ := H
      all_goals cases H
      all_goals (replace H0 := Hold.mk H0; have H := H0; clear H0)
      all_goals (
       first
        | (with_reducible replace H := Hold.mk (sBindA H.out (by assumption)))
        | (have H1 := sBind H.out; clear H; obtain ⟨t, hA, H⟩ := H1; replace H := Hold.mk H)
       first
        | (with_reducible replace H := Hold.mk (sBindA H.out (by assumption)))
        | (have H1 := sBind H.out; clear H; obtain ⟨t, hA, H⟩ := H1; replace H := Hold.mk H)
       first
        | (with_reducible replace H := Hold.mk (sBindA H.out (by assumption)))
        | (have H1 := sBind H.out; clear H; obtain ⟨t, hA, H⟩ := H1; replace H := Hold.mk H)
       first
        | (with_reducible replace H := Hold.mk (sBindA H.out (by assumption)))
        | (have H1 := sBind H.out; clear H; obtain ⟨t, hA, H⟩ := H1; replace H := Hold.mk H)
       first
        | (with_reducible replace H := Hold.mk (sBindA H.out (by assumption)))
        | (have H1 := sBind H.out; clear H; obtain ⟨t, hA, H⟩ := H1; replace H := Hold.mk H)
       first
        | (with_reducible replace H := Hold.mk (sBindA H.out (by assumption)))
        | (have H1 := sBind H.out; clear H; obtain ⟨t, hA, H⟩ := H1; replace H := Hold.mk H)
       have m0 : LM 2 12 [2, 3, 8, 9, 47] (fun X => ∃ x47, ∃ x611000, ∃ x611001, ∃ x611002, ∃ x612000, ∃ x612001, ∃ x612002, ∃ x612003, ∃ x645000, ∃ x645001, ∃ x645002, ∃ x656000, ∃ x656001, ∃ x656002, ∃ x656003, ∃ q, X = ⟨[(2, .pl 0 none 0), (3, .pl 1 none 0), (8, .pl 2 none 0), (9, .pl 3 none 0), (47, .dat false [.sc (.bool x47)])], [(0, .mem [.sl none 6 (List.flatMap e72 x611000), .sl none 4 (List.flatMap e76 x611001), .sl none 4 (List.flatMap e79 x611002)]), (1, .mem [.sl none 1 (List.flatMap eI x612000), .sl none 1 (List.flatMap eS x612001), .sl none 1 (List.flatMap eI x612002), .sc (.int .i64 x612003)]), (2, .mem [.sl (some 0) 6 (List.flatMap o57 x645000), .sl (some 0) 4 (List.flatMap o86 x645001), .sl (some 0) 4 (List.flatMap o88 x645002)]), (3, .mem [.sl (some 0) 1 (List.flatMap eI x656000), .sl (some 0) 1 (List.flatMap eS x656001), .sl (some 0) 1 (List.flatMap eI x656002), .sc (.int .i64 x656003)])]⟩ ∧ q ≤ k ∧ laws_FnExactValueAt.j0 q x47 x611000 x611001 x611002 x612000 x612001 x612002 x612003 x645000 x645001 x645002 x656000 x656001 x656002 x656003 = some r) := ⟨⟩
       apply late
       · intro pa0
         apply late
         · intro pb0
           apply BZc.out
           exact BZc.go
         · clear H
           intro X hJ
           obtain ⟨x47, x611000, x611001, x611002, x612000, x612001, x612002, x612003, x645000, x645001, x645002, x656000, x656001, x656002, x656003, q1, rfl, hq, H⟩ := hJ
           cases q1 with
           | zero => (simp only [laws_FnExactValueAt.j0] at H; cases H)
           | succ kq1 =>
            simp only [laws_FnExactValueAt.j0] at H
            apply BZ.out
            exact BZ.go
       · intro hj0
         replace H := H.out
         apply BZ.out
         exact BZ.go))
end Go.Proofs.Ytjjhknklnclokaa.PFnExactValueAt
