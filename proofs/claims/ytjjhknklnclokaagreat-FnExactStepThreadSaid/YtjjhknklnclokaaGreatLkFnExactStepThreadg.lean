/- Functions' walks: each computes what its plain form says. No condition. -/
import Derived.Test.YtjjhknklnclokaaGreatLkFnExactStepThreadh
import Derived.Test.YtjjhknklnclokaaGreatLkFnExactStepThreadc
open Go Go.Proofs Go.Proofs.YtjjhknklnclokaaGreat.Abs
namespace Go.Proofs.YtjjhknklnclokaaGreat.PFnExactStepThread
open Go.RowKit Go.Proofs.YtjjhknklnclokaaGreatW.PrintWords Go.Proofs.YtjjhknklnclokaaGreatW.PrintLast Go.Proofs.YtjjhknklnclokaaGreatW.PrintMore
set_option linter.unusedVariables false
set_option linter.unusedSimpArgs false
set_option maxRecDepth 100000
attribute [local irreducible] evK evQ evM evF evW evH goE goK goKD goQ goQD goD Ok ACalls
attribute [local go_sem] noMutL_append Bool.true_and Bool.and_true
set_option maxHeartbeats 8000000 in
theorem spec_l11Do.link {k : Nat} {l0_0 : List S71} {l0_1 : List S111} {l0_2 : List S115} {l1_0 : List Int} {l1_1 : List ByteArray} {l1_2 : List Int} {a1_3 : Int} {r : List Int × List ByteArray × List Int × Int} (H : spec_l11Do.f k l0_0 l0_1 l0_2 l1_0 l1_1 l1_2 a1_3 = some r) : ACalls Tryz.prog 114 [.dat true [.sl none 6 (List.flatMap e71 l0_0), .sl none 4 (List.flatMap e111 l0_1), .sl none 4 (List.flatMap e115 l0_2)], .ptr (.rw [.sl (some 0) 1 (List.flatMap eI l1_0), .sl (some 0) 1 (List.flatMap eS l1_1), .sl (some 0) 1 (List.flatMap eI l1_2), .sc (.int .i64 a1_3)])] [] [.dat true [.sl none 6 (List.flatMap e71 l0_0), .sl none 4 (List.flatMap e111 l0_1), .sl none 4 (List.flatMap e115 l0_2)], .ptr (.rw [.sl (some 0) 1 (List.flatMap eI r.1), .sl (some 0) 1 (List.flatMap eS r.2.1), .sl (some 0) 1 (List.flatMap eI r.2.2.1), .sc (.int .i64 r.2.2.2)])] := by
 refine ACalls.en Tryz.func114 Tryz.ntmps114 .go .go .go .go ?_
 intro C F hC hP hF hn (hx : C.fx = [1])
 have kp : KL [0, 1, 2, 4, 5, 6, 7, 8, 38, 53, 75, 76, 89, 92, 109, 123, 126, 141, 148, 170] := ⟨⟩
 have kr : KR #[] := ⟨⟩
 have kt0 : KT 9 [0, 2, 3, 4, 5, 6, 7, 8, 9, 10, 11, 14, 15] [0, 1, 2, 3, 4, 5, 6, 7, 8, 9, 10, 11, 12, 13, 14, 15, 16] (.e 0 (.e 2 (.e 3 (.e 4 (.e 5 (.e 6 (.e 7 (.e 8 (.e 9 (.e 10 (.e 11 (.m 1 [11, 10, 9, 8, 7, 6, 5, 4, 3, 2, 0] (.m 12 [0] (.m 13 [0] (.e 14 (.e 15 (.m 16 [] .z .x))) .x) .x) (.m 12 [0] (.m 1 [0] (.m 13 [0] (.e 14 (.e 15 (.m 16 [] .z .x))) .x) .x) .x))))))))))))) := ⟨⟩
 have kd0 : KD 6 (noneL [0, 1, 2, 3, 4, 5, 6, 7, 8] ++ ((9, some []) :: (noneL [10, 11, 12, 13, 14] ++ []))) := ⟨⟩
 have kd1 : KD 12 (noneL [0, 1, 2, 3, 4, 5, 6, 7] ++ ((8, some [0]) :: (noneL [9, 10] ++ ((11, some []) :: ([]))))) := ⟨⟩
 have kd2 : KD 15 (noneL [0, 1, 2, 3, 4, 5, 6, 7, 8] ++ ((9, some [4, 3, 2, 1, 0]) :: ((10, some [0]) :: (noneL [11, 12] ++ ((13, some []) :: ([])))))) := ⟨⟩
 have kd3 : KD 17 (noneL [0, 1, 2, 3, 4, 5, 6, 7, 8] ++ ((9, some [4, 3, 2, 1, 0]) :: ((10, some [0]) :: (noneL [11, 12] ++ ((13, some []) :: ([])))))) := ⟨⟩
 have kd4 : KD 20 (noneL [0, 1, 2, 3, 4, 5, 6, 7, 8, 9] ++ ((10, some [4, 3, 2, 1, 0]) :: ((11, some [0]) :: (noneL [12, 13] ++ ((14, some []) :: ([])))))) := ⟨⟩
 have kd5 : KD 25 (noneL [0, 1, 2, 3, 4, 5, 6, 7, 8, 9] ++ ((10, some [4, 3, 2, 1, 0]) :: ((11, some [0]) :: (noneL [12, 13] ++ ((14, some []) :: ([])))))) := ⟨⟩
 have c0 := Hold.mk @spec_ValueOf.link
 have c1 := Hold.mk @spec_PutIn.link
 simp only [spec_l11Do.f] at H
 have w0 : LJ [1, 5, 8] (fun q X => ∃ x8, ∃ x901000, ∃ x901001, ∃ x901002, ∃ x901003, ∃ x902000, ∃ x902001, ∃ x902002, ∃ x902003, ∃ x902004, ∃ x902005, X = ⟨[(1, .pl 0 none 0), (5, .pl 1 none 0), (8, .dat false [.sc (.int .i64 x8)])], [(0, .mem [.sl (some 0) 1 (List.flatMap eI x901000), .sl (some 0) 1 (List.flatMap eS x901001), .sl (some 0) 1 (List.flatMap eI x901002), .sc (.int .i64 x901003)]), (1, .mem [.sc (.int .i64 x902000), .sc (.int .i64 x902001), .sc (.string x902002), .sc (.string x902003), .sc (.string x902004), .sl none 1 (List.flatMap eI x902005)])]⟩ ∧ q ≤ k ∧ spec_l11Do.l0 q x8 x901000 x901001 x901002 x901003 x902000 x902001 x902002 x902003 x902004 x902005 = some r) := ⟨⟩
 apply late
 · intro lp0
   apply BZna.out
   exact BZna.go
 · intro q1 X hJ ih0
   clear H
   obtain ⟨x8, x901000, x901001, x901002, x901003, x902000, x902001, x902002, x902003, x902004, x902005, rfl, hq, H⟩ := hJ
   cases q1 with
   | zero => (simp only [spec_l11Do.l0] at H; cases H)
   | succ kq1 =>
    simp only [spec_l11Do.l0] at H
    apply BZna.out
    exact BZna.go
end Go.Proofs.YtjjhknklnclokaaGreat.PFnExactStepThread
