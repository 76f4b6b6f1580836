/- Functions' walks: each computes what its plain form says. No condition. -/
import Derived.Test.YtppfilhlblnmcaaLkFnExactSignsOfh
import Derived.Test.YtppfilhlblnmcaaLkFnExactSignsOfa
open Go Go.Proofs Go.Proofs.Ytppfilhlblnmcaa.Abs
namespace Go.Proofs.Ytppfilhlblnmcaa.PFnExactSignsOf
open Go.RowKit Go.Proofs.YtppfilhlblnmcaaW.PrintWords Go.Proofs.YtppfilhlblnmcaaW.PrintLast Go.Proofs.YtppfilhlblnmcaaW.PrintMore
set_option linter.unusedVariables false
set_option linter.unusedSimpArgs false
set_option maxRecDepth 100000
attribute [local irreducible] evK evQ evM evF evW evH goE goK goKD goQ goQD goD Ok ACalls
set_option maxHeartbeats 8000000 in
theorem impl_run_impl_letter.link {k : Nat} {a0 : ByteArray} {a1 : Int} {r : Int} (H : impl_run_impl_letter.f k a0 a1 = some r) : ACalls Try.prog 23 [.dat false [.sc (.string a0)], .dat false [.sc (.int .i64 a1)], .clo 37 []] [(false, [.sc (.int .i64 r)])] [.dat false [.sc (.string a0)], .dat false [.sc (.int .i64 a1)], .clo 37 []] := by
 refine ACalls.en Try.func23 Try.ntmps23 .go .go .go .go ?_
 intro C F hC hP hF hn (hx : C.fx = [2])
 have kp : KL [0, 1, 2, 6, 17] := ⟨⟩
 have kr : KR #[.tmp 6] := ⟨⟩
 have c0 := Hold.mk @impl_letter.link
 simp only [impl_run_impl_letter.f] at H
 have w0 : LJ [0, 1, 2] (fun q X => ∃ x0, ∃ x1, X = ⟨[(0, .dat false [.sc (.string x0)]), (1, .dat false [.sc (.int .i64 x1)]), (2, .clo 37 [])], []⟩ ∧ q ≤ k ∧ impl_run_impl_letter.l0 q x0 x1 = some r) := ⟨⟩
 apply late
 · intro lp0
   apply BZ.out
   exact BZ.go
 · intro q1 X hJ ih0
   clear H
   obtain ⟨x0, x1, rfl, hq, H⟩ := hJ
   cases q1 with
   | zero => (simp only [impl_run_impl_letter.l0] at H; cases H)
   | succ kq1 =>
    simp only [impl_run_impl_letter.l0] at H
    apply BZn.out
    exact BZn.go
set_option maxHeartbeats 8000000 in
theorem impl_run_impl_figure.link {k : Nat} {a0 : ByteArray} {a1 : Int} {r : Int} (H : impl_run_impl_figure.f k a0 a1 = some r) : ACalls Try.prog 23 [.dat false [.sc (.string a0)], .dat false [.sc (.int .i64 a1)], .clo 38 []] [(false, [.sc (.int .i64 r)])] [.dat false [.sc (.string a0)], .dat false [.sc (.int .i64 a1)], .clo 38 []] := by
 refine ACalls.en Try.func23 Try.ntmps23 .go .go .go .go ?_
 intro C F hC hP hF hn (hx : C.fx = [2])
 have kp : KL [0, 1, 2, 6, 17] := ⟨⟩
 have kr : KR #[.tmp 6] := ⟨⟩
 have c0 := Hold.mk @impl_figure.link
 simp only [impl_run_impl_figure.f] at H
 have w0 : LJ [0, 1, 2] (fun q X => ∃ x0, ∃ x1, X = ⟨[(0, .dat false [.sc (.string x0)]), (1, .dat false [.sc (.int .i64 x1)]), (2, .clo 38 [])], []⟩ ∧ q ≤ k ∧ impl_run_impl_figure.l0 q x0 x1 = some r) := ⟨⟩
 apply late
 · intro lp0
   apply BZ.out
   exact BZ.go
 · intro q1 X hJ ih0
   clear H
   obtain ⟨x0, x1, rfl, hq, H⟩ := hJ
   cases q1 with
   | zero => (simp only [impl_run_impl_figure.l0] at H; cases H)
   | succ kq1 =>
    simp only [impl_run_impl_figure.l0] at H
    apply BZn.out
    exact BZn.go
set_option maxHeartbeats 8000000 in
theorem impl_run_impl_SignsOf_1.link {k : Nat} {a0 : ByteArray} {a1 : Int} {r : Int} (H : impl_run_impl_SignsOf_1.f k a0 a1 = some r) : ACalls Try.prog 23 [.dat false [.sc (.string a0)], .dat false [.sc (.int .i64 a1)], .clo 24 []] [(false, [.sc (.int .i64 r)])] [.dat false [.sc (.string a0)], .dat false [.sc (.int .i64 a1)], .clo 24 []] := by
 refine ACalls.en Try.func23 Try.ntmps23 .go .go .go .go ?_
 intro C F hC hP hF hn (hx : C.fx = [2])
 have kp : KL [0, 1, 2, 6, 17] := ⟨⟩
 have kr : KR #[.tmp 6] := ⟨⟩
 have c0 := Hold.mk @impl_SignsOf_1.link
 simp only [impl_run_impl_SignsOf_1.f] at H
 have w0 : LJ [0, 1, 2] (fun q X => ∃ x0, ∃ x1, X = ⟨[(0, .dat false [.sc (.string x0)]), (1, .dat false [.sc (.int .i64 x1)]), (2, .clo 24 [])], []⟩ ∧ q ≤ k ∧ impl_run_impl_SignsOf_1.l0 q x0 x1 = some r) := ⟨⟩
 apply late
 · intro lp0
   apply BZ.out
   exact BZ.go
 · intro q1 X hJ ih0
   clear H
   obtain ⟨x0, x1, rfl, hq, H⟩ := hJ
   cases q1 with
   | zero => (simp only [impl_run_impl_SignsOf_1.l0] at H; cases H)
   | succ kq1 =>
    simp only [impl_run_impl_SignsOf_1.l0] at H
    apply BZn.out
    exact BZn.go
end Go.Proofs.Ytppfilhlblnmcaa.PFnExactSignsOf
