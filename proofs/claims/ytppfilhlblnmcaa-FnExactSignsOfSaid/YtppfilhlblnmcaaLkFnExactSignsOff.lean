/- Functions' walks: each computes what its plain form says. No condition. -/
import Derived.Test.YtppfilhlblnmcaaLkFnExactSignsOfh
import Derived.Test.YtppfilhlblnmcaaLkFnExactSignsOfa
import Derived.Test.YtppfilhlblnmcaaLkFnExactSignsOfe
open Go Go.Proofs Go.Proofs.Ytppfilhlblnmcaa.Abs
namespace Go.Proofs.Ytppfilhlblnmcaa.PFnExactSignsOf
open Go.RowKit Go.Proofs.YtppfilhlblnmcaaW.PrintWords Go.Proofs.YtppfilhlblnmcaaW.PrintLast Go.Proofs.YtppfilhlblnmcaaW.PrintMore
set_option linter.unusedVariables false
set_option linter.unusedSimpArgs false
set_option maxRecDepth 100000
attribute [local irreducible] evK evQ evM evF evW evH goE goK goKD goQ goQD goD Ok ACalls
attribute [local go_sem] noMutL_append Bool.true_and Bool.and_true in
set_option maxHeartbeats 40000000 in
theorem spec_l04Scan_one.link {k : Nat} {a0_0 : ByteArray} {a0_1 : Int} {l0_2 : List S50} {r : Bool × ByteArray × Int × List S50} (H : spec_l04Scan_one.f k a0_0 a0_1 l0_2 = some r) : ACalls Try.prog 22 [.ptr (.rw [.sc (.string a0_0), .sc (.int .i64 a0_1), .sl (some 0) 4 (List.flatMap e50 l0_2)])] [(false, [.sc (.bool r.1)])] [.ptr (.rw [.sc (.string r.2.1), .sc (.int .i64 r.2.2.1), .sl (some 0) 4 (List.flatMap e50 r.2.2.2)])] := by
 refine ACalls.en Try.func22 Try.ntmps22 .go .go .go .go ?_
 intro C F hC hP hF hn (hx : C.fx = [0])
 have kp : KL [0, 2, 3, 4, 5, 20, 34, 35, 49, 54, 68, 107, 139] := ⟨⟩
 have kr : KR #[.tmp 2] := ⟨⟩
 have kd0 : KD 17 (noneL [0, 1, 2, 3, 4, 5, 6, 7, 8, 9, 10] ++ ((11, some []) :: ([]))) := ⟨⟩
 have kd1 : KD 24 (noneL [0, 1, 2, 3, 4, 5, 6, 7, 8, 9, 10, 11, 12, 13, 14] ++ ((15, some []) :: ([]))) := ⟨⟩
 have kd2 : KD 28 (noneL [0, 1, 2, 3, 4, 5] ++ ((6, some [4, 3, 2, 1, 0]) :: ((7, some [0]) :: (noneL [8, 9] ++ ((10, some []) :: ([])))))) := ⟨⟩
 have c0 := Hold.mk @spec_l04Mark.link
 have c1 := Hold.mk @spec_l04Scan_runW.link
 simp only [spec_l04Scan_one.f, spec_l04Scan_one.g, spec_l04Scan_one.h, spec_l04Scan_one.m] at H
 have w0 : LJ [0, 3, 5] (fun q X => ∃ x5, ∃ x901000, ∃ x901001, ∃ x901002, ∃ x902000, ∃ x902001, ∃ x902002, ∃ x902003, X = ⟨[(0, .pl 0 none 0), (3, .pl 1 none 0), (5, .dat false [.sc (.int .i64 x5)])], [(0, .mem [.sc (.string x901000), .sc (.int .i64 x901001), .sl (some 0) 4 (List.flatMap e50 x901002)]), (1, .mem [.sc (.int .i64 x902000), .sc (.string x902001), .sc (.int .i64 x902002), .sc (.int .i64 x902003)])]⟩ ∧ q ≤ k ∧ spec_l04Scan_one.l0 q x5 x901000 x901001 x901002 x902000 x902001 x902002 x902003 = some r) := ⟨⟩
 apply late
 · intro lp0
   apply BZna.out
   exact BZna.go
 · intro q1 X hJ ih0
   clear H
   obtain ⟨x5, x901000, x901001, x901002, x902000, x902001, x902002, x902003, rfl, hq, H⟩ := hJ
   cases q1 with
   | zero => (simp only [spec_l04Scan_one.l0] at H; cases H)
   | succ kq1 =>
    simp only [spec_l04Scan_one.l0] at H
    apply BZa.out
    exact BZa.go
end Go.Proofs.Ytppfilhlblnmcaa.PFnExactSignsOf
