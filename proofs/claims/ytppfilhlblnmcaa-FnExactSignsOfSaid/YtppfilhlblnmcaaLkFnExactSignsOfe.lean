/- Functions' walks: each computes what its plain form says. No condition. -/
import Derived.Test.YtppfilhlblnmcaaLkFnExactSignsOfh
import Derived.Test.YtppfilhlblnmcaaLkFnExactSignsOfd
open Go Go.Proofs Go.Proofs.Ytppfilhlblnmcaa.Abs
namespace Go.Proofs.Ytppfilhlblnmcaa.PFnExactSignsOf
open Go.RowKit Go.Proofs.YtppfilhlblnmcaaW.PrintWords Go.Proofs.YtppfilhlblnmcaaW.PrintLast Go.Proofs.YtppfilhlblnmcaaW.PrintMore
set_option linter.unusedVariables false
set_option linter.unusedSimpArgs false
set_option maxRecDepth 100000
attribute [local irreducible] evK evQ evM evF evW evH goE goK goKD goQ goQD goD Ok ACalls
set_option maxHeartbeats 8000000 in
theorem laws_heldSignS.link {k : Nat} {l0 : List (S50)} {a1 : Int} {r : Int} (H : laws_heldSignS.f k l0 a1 = some r) : ACalls Try.prog 10 [.dat false [.sl none 4 (List.flatMap e50 l0)], .dat false [.sc (.int .i64 a1)]] [(false, [.sc (.int .i64 r)])] [.dat false [.sl none 4 (List.flatMap e50 l0)], .dat false [.sc (.int .i64 a1)]] := by
 refine ACalls.en Try.func10 Try.ntmps10 .go .go .go .go ?_
 intro C F hC hP hF hn (hx : C.fx = [])
 have kp : KL [0, 1, 4, 5, 9, 18, 28, 37, 46] := ⟨⟩
 have kr : KR #[.tmp 4] := ⟨⟩
 have kd0 : KD 7 (noneL [0, 1, 2, 3, 4, 5] ++ ((6, some [4, 3, 2, 1, 0]) :: (noneL [7] ++ []))) := ⟨⟩
 have c0 := Hold.mk @laws_markText.link
 simp only [laws_heldSignS.f] at H
 have w0 : LJ [0, 1, 5] (fun q X => ∃ x0, ∃ x1, ∃ x5, X = ⟨[(0, .dat false [.sl none 4 (List.flatMap e50 x0)]), (1, .dat false [.sc (.int .i64 x1)]), (5, .dat false [.sc (.int .i64 x5)])], []⟩ ∧ q ≤ k ∧ laws_heldSignS.l0 q x0 x1 x5 = some r) := ⟨⟩
 apply late
 · intro lp0
   apply BZ.out
   exact BZ.go
 · intro q1 X hJ ih0
   clear H
   obtain ⟨x0, x1, x5, rfl, hq, H⟩ := hJ
   cases q1 with
   | zero => (simp only [laws_heldSignS.l0] at H; cases H)
   | succ kq1 =>
    simp only [laws_heldSignS.l0] at H
    apply BZn.out
    exact BZn.go
set_option maxHeartbeats 8000000 in
theorem spec_l04Scan_runW.link {k : Nat} {a0_0 : ByteArray} {a0_1 : Int} {l0_2 : List S50} {a1 : Int} {a2 : Int} {r : ByteArray × ByteArray × Int × List S50} (H : spec_l04Scan_runW.f k a0_0 a0_1 l0_2 a1 a2 = some r) : ACalls Try.prog 35 [.ptr (.rw [.sc (.string a0_0), .sc (.int .i64 a0_1), .sl (some 0) 4 (List.flatMap e50 l0_2)]), .dat false [.sc (.int .u8 a1)], .dat false [.sc (.int .u8 a2)]] [(false, [.sc (.string r.1)])] [.ptr (.rw [.sc (.string r.2.1), .sc (.int .i64 r.2.2.1), .sl (some 0) 4 (List.flatMap e50 r.2.2.2)]), .dat false [.sc (.int .u8 a1)], .dat false [.sc (.int .u8 a2)]] := by
 refine ACalls.en Try.func35 Try.ntmps35 .go .go .go .go ?_
 intro C F hC hP hF hn (hx : C.fx = [0])
 have kp : KL [0, 1, 2, 6, 7, 47] := ⟨⟩
 have kr : KR #[.tmp 6] := ⟨⟩
 simp only [spec_l04Scan_runW.f] at H
 have w0 : LJ [0, 1, 2, 7] (fun q X => ∃ x1, ∃ x2, ∃ x7, ∃ x901000, ∃ x901001, ∃ x901002, X = ⟨[(0, .pl 0 none 0), (1, .dat false [.sc (.int .u8 x1)]), (2, .dat false [.sc (.int .u8 x2)]), (7, .dat false [.sc (.int .i64 x7)])], [(0, .mem [.sc (.string x901000), .sc (.int .i64 x901001), .sl (some 0) 4 (List.flatMap e50 x901002)])]⟩ ∧ q ≤ k ∧ spec_l04Scan_runW.l0 q x1 x2 x7 x901000 x901001 x901002 = some r) := ⟨⟩
 apply late
 · intro lp0
   apply BZ.out
   exact BZ.go
 · intro q1 X hJ ih0
   clear H
   obtain ⟨x1, x2, x7, x901000, x901001, x901002, rfl, hq, H⟩ := hJ
   cases q1 with
   | zero => (simp only [spec_l04Scan_runW.l0] at H; cases H)
   | succ kq1 =>
    simp only [spec_l04Scan_runW.l0] at H
    apply BZ.out
    exact BZ.go
end Go.Proofs.Ytppfilhlblnmcaa.PFnExactSignsOf
