/- Functions' walks: each computes what its plain form says. No condition. -/
import Derived.Test.YtjjhknklnclokaaGreatLkFnExactStepThreadh
import Derived.Test.YtjjhknklnclokaaGreatLkFnExactStepThreada
import Derived.Test.YtjjhknklnclokaaGreatLkFnExactStepThreadb
import Derived.Test.YtjjhknklnclokaaGreatLkFnExactStepThreadg
open Go Go.Proofs Go.Proofs.YtjjhknklnclokaaGreat.Abs
namespace Go.Proofs.YtjjhknklnclokaaGreat.PFnExactStepThread
open Go.RowKit Go.Proofs.YtjjhknklnclokaaGreatW.PrintWords Go.Proofs.YtjjhknklnclokaaGreatW.PrintLast Go.Proofs.YtjjhknklnclokaaGreatW.PrintMore
set_option linter.unusedVariables false
set_option linter.unusedSimpArgs false
set_option maxRecDepth 100000
attribute [local irreducible] evK evQ evM evF evW evH goE goK goKD goQ goQD goD Ok ACalls
set_option maxHeartbeats 8000000 in
theorem spec_l11Step.link {k : Nat} {l0_0 : List S71} {l0_1 : List S111} {l0_2 : List S115} {l1_0 : List Int} {l1_1 : List ByteArray} {l1_2 : List Int} {a1_3 : Int} {r : Bool × List Int × List ByteArray × List Int × Int} (H : spec_l11Step.f k l0_0 l0_1 l0_2 l1_0 l1_1 l1_2 a1_3 = some r) : ACalls Tryz.prog 48 [.dat true [.sl none 6 (List.flatMap e71 l0_0), .sl none 4 (List.flatMap e111 l0_1), .sl none 4 (List.flatMap e115 l0_2)], .ptr (.rw [.sl (some 0) 1 (List.flatMap eI l1_0), .sl (some 0) 1 (List.flatMap eS l1_1), .sl (some 0) 1 (List.flatMap eI l1_2), .sc (.int .i64 a1_3)])] [(false, [.sc (.bool r.1)])] [.dat true [.sl none 6 (List.flatMap e71 l0_0), .sl none 4 (List.flatMap e111 l0_1), .sl none 4 (List.flatMap e115 l0_2)], .ptr (.rw [.sl (some 0) 1 (List.flatMap eI r.2.1), .sl (some 0) 1 (List.flatMap eS r.2.2.1), .sl (some 0) 1 (List.flatMap eI r.2.2.2.1), .sc (.int .i64 r.2.2.2.2)])] := by
 refine ACalls.en Tryz.func48 Tryz.ntmps48 .go .go .go .go ?_
 intro C F hC hP hF hn (hx : C.fx = [1])
 have kp : KL [0, 1, 2, 4, 5, 11, 36] := ⟨⟩
 have kr : KR #[.tmp 4] := ⟨⟩
 have kd0 : KD 1 (noneL [0, 1, 2, 3] ++ ((4, some []) :: (noneL [5] ++ []))) := ⟨⟩
 have c0 := Hold.mk @spec_StateOf.link
 have c1 := Hold.mk @spec_l05Value.link
 have c2 := Hold.mk @spec_NodeOk.link
 have c3 := Hold.mk @spec_l11Do.link
 simp only [spec_l11Step.f] at H
 apply BZn.out
 exact BZn.go
set_option maxHeartbeats 8000000 in
theorem spec_StepThread.link {k : Nat} {l0_0 : List S71} {l0_1 : List S111} {l0_2 : List S115} {l1_0 : List Int} {l1_1 : List ByteArray} {l1_2 : List Int} {a1_3 : Int} {r : List Int × List ByteArray × List Int × Int} (H : spec_StepThread.f k l0_0 l0_1 l0_2 l1_0 l1_1 l1_2 a1_3 = some r) : ACalls Tryz.prog 15 [.dat true [.sl none 6 (List.flatMap e71 l0_0), .sl none 4 (List.flatMap e111 l0_1), .sl none 4 (List.flatMap e115 l0_2)], .dat true [.sl none 1 (List.flatMap eI l1_0), .sl none 1 (List.flatMap eS l1_1), .sl none 1 (List.flatMap eI l1_2), .sc (.int .i64 a1_3)]] [(true, [.sl (some 0) 1 (List.flatMap eI r.1), .sl (some 0) 1 (List.flatMap eS r.2.1), .sl (some 0) 1 (List.flatMap eI r.2.2.1), .sc (.int .i64 r.2.2.2)])] [.dat true [.sl none 6 (List.flatMap e71 l0_0), .sl none 4 (List.flatMap e111 l0_1), .sl none 4 (List.flatMap e115 l0_2)], .dat true [.sl none 1 (List.flatMap eI l1_0), .sl none 1 (List.flatMap eS l1_1), .sl none 1 (List.flatMap eI l1_2), .sc (.int .i64 a1_3)]] := by
 refine ACalls.en Tryz.func15 Tryz.ntmps15 .go .go .go .go ?_
 intro C F hC hP hF hn (hx : C.fx = [])
 have kp : KL [0, 1, 2, 3, 4, 5] := ⟨⟩
 have kr : KR #[.cell 4 47] := ⟨⟩
 have c0 := Hold.mk @spec_l11Copy.link
 have c1 := Hold.mk @spec_l11Step.link
 simp only [spec_StepThread.f] at H
 apply BZ.out
 exact BZ.go
end Go.Proofs.YtjjhknklnclokaaGreat.PFnExactStepThread
