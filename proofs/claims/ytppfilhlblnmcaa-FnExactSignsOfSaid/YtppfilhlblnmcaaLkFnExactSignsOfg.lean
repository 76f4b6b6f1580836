/- Functions' walks: each computes what its plain form says. No condition. -/
import Derived.Test.YtppfilhlblnmcaaLkFnExactSignsOfh
import Derived.Test.YtppfilhlblnmcaaLkFnExactSignsOff
open Go Go.Proofs Go.Proofs.Ytppfilhlblnmcaa.Abs
namespace Go.Proofs.Ytppfilhlblnmcaa.PFnExactSignsOf
open Go.RowKit Go.Proofs.YtppfilhlblnmcaaW.PrintWords Go.Proofs.YtppfilhlblnmcaaW.PrintLast Go.Proofs.YtppfilhlblnmcaaW.PrintMore
set_option linter.unusedVariables false
set_option linter.unusedSimpArgs false
set_option maxRecDepth 100000
attribute [local irreducible] evK evQ evM evF evW evH goE goK goKD goQ goQD goD Ok ACalls
set_option maxHeartbeats 8000000 in
theorem spec_SignsOf.link {k : Nat} {a0 : ByteArray} {r : List S50 × Int} (H : spec_SignsOf.f k a0 = some r) : ACalls Try.prog 6 [.dat false [.sc (.string a0)]] [(false, [.sl (some 0) 4 (List.flatMap e50 r.1)]), (false, [.sc (.int .i64 r.2)])] [.dat false [.sc (.string a0)]] := by
 refine ACalls.en Try.func6 Try.ntmps6 .go .go .go .go ?_
 intro C F hC hP hF hn (hx : C.fx = [])
 have kp : KL [0, 2, 3, 4, 5, 6, 7, 11, 22, 34, 44, 60, 75] := ⟨⟩
 have kr : KR #[.tmp 2, .tmp 3] := ⟨⟩
 have c0 := Hold.mk @spec_l04Scan_one.link
 simp only [spec_SignsOf.f] at H
 have w0 : LJ [0, 4, 5] (fun q X => ∃ x0, ∃ x901000, ∃ x901001, ∃ x901002, X = ⟨[(0, .dat false [.sc (.string x0)]), (4, .bor 0 none 0 1 false), (5, .pl 1 none 0)], [(0, .vir [.sl (some 0) 4 (List.flatMap e50 ([] : List S50))]), (1, .mem [.sc (.string x901000), .sc (.int .i64 x901001), .sl (some 0) 4 (List.flatMap e50 x901002)])]⟩ ∧ q ≤ k ∧ spec_SignsOf.l0 q x0 x901000 x901001 x901002 = some r) := ⟨⟩
 apply late
 · intro lp0
   apply BZa.out
   exact BZa.go
 · intro q1 X hJ ih0
   clear H
   obtain ⟨x0, x901000, x901001, x901002, rfl, hq, H⟩ := hJ
   cases q1 with
   | zero => (simp only [spec_SignsOf.l0] at H; cases H)
   | succ kq1 =>
    simp only [spec_SignsOf.l0] at H
    have w1 : LJ [0, 4, 5] (fun q X => ∃ x0, ∃ x901000, ∃ x901001, ∃ x901002, X = ⟨[(0, .dat false [.sc (.string x0)]), (4, .bor 0 none 0 1 false), (5, .pl 1 none 0)], [(0, .vir [.sl (some 0) 4 (List.flatMap e50 ([] : List S50))]), (1, .mem [.sc (.string x901000), .sc (.int .i64 x901001), .sl (some 0) 4 (List.flatMap e50 x901002)])]⟩ ∧ q ≤ kq1 ∧ spec_SignsOf.l1 q x0 x901000 x901001 x901002 = some r) := ⟨⟩
    apply late
    · intro lp1
      apply BZa.out
      exact BZa.go
    · intro q2 X hJ ih1
      clear H
      obtain ⟨x0, x901000, x901001, x901002, rfl, hq, H⟩ := hJ
      cases q2 with
      | zero => (simp only [spec_SignsOf.l1] at H; cases H)
      | succ kq2 =>
       simp only [spec_SignsOf.l1] at H
       apply BZa.out
       exact BZa.go
end Go.Proofs.Ytppfilhlblnmcaa.PFnExactSignsOf
