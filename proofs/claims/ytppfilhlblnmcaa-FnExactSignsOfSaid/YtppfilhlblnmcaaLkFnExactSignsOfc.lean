/- Functions' walks: each computes what its plain form says. No condition. -/
import Derived.Test.YtppfilhlblnmcaaLkFnExactSignsOfh
import Derived.Test.YtppfilhlblnmcaaLkFnExactSignsOfa
import Derived.Test.YtppfilhlblnmcaaLkFnExactSignsOfb
open Go Go.Proofs Go.Proofs.Ytppfilhlblnmcaa.Abs
namespace Go.Proofs.Ytppfilhlblnmcaa.PFnExactSignsOf
open Go.RowKit Go.Proofs.YtppfilhlblnmcaaW.PrintWords Go.Proofs.YtppfilhlblnmcaaW.PrintLast Go.Proofs.YtppfilhlblnmcaaW.PrintMore
set_option linter.unusedVariables false
set_option linter.unusedSimpArgs false
set_option maxRecDepth 100000
attribute [local irreducible] evK evQ evM evF evW evH goE goK goKD goQ goQD goD Ok ACalls
set_option maxHeartbeats 8000000 in
theorem impl_signAt.link {k : Nat} {a0 : ByteArray} {a1 : Int} {r : Int × ByteArray × Int × Int × Int × Bool} (H : impl_signAt.f k a0 a1 = some r) : ACalls Try.prog 25 [.dat false [.sc (.string a0)], .dat false [.sc (.int .i64 a1)]] [(true, [.sc (.int .i64 r.1), .sc (.string r.2.1), .sc (.int .i64 r.2.2.1), .sc (.int .i64 r.2.2.2.1)]), (false, [.sc (.int .i64 r.2.2.2.2.1)]), (false, [.sc (.bool r.2.2.2.2.2)])] [.dat false [.sc (.string a0)], .dat false [.sc (.int .i64 a1)]] := by
 refine ACalls.en Try.func25 Try.ntmps25 .go .go .go .go ?_
 intro C F hC hP hF hn (hx : C.fx = [])
 have kp : KL [0, 1, 4, 5, 6, 7, 8, 9, 11, 21, 31, 34, 44, 51, 52, 53, 54, 66, 74] := ⟨⟩
 have kr : KR #[.cell 4 50, .tmp 5, .tmp 6] := ⟨⟩
 have c0 := Hold.mk @impl_letter.link
 have c1 := Hold.mk @impl_figure.link
 have c2 := Hold.mk @strings_HasPrefix.link
 have c3 := Hold.mk @impl_run_impl_letter.link
 have c4 := Hold.mk @impl_run_impl_figure.link
 have c5 := Hold.mk @strings_IndexByte.link
 simp only [impl_signAt.f] at H
 have w0 : LJ [0, 1, 4, 7, 8, 51, 52, 53] (fun q X => ∃ x0, ∃ x1, ∃ x8, ∃ x51, ∃ x52, ∃ x53, ∃ x108000, ∃ x108001, ∃ x108002, ∃ x108003, ∃ x107000, ∃ x107001, ∃ x107002, ∃ x107003, X = ⟨[(0, .dat false [.sc (.string x0)]), (1, .dat false [.sc (.int .i64 x1)]), (4, .pl 0 none 0), (7, .pl 1 none 0), (8, .dat false [.sc (.int .i64 x8)]), (51, .dat false [.sl none 1 (List.flatMap eU x51)]), (52, .dat false [.sc (.int .i64 x52)]), (53, .dat false [.sc (.int .i64 x53)])], [(0, .mem [.sc (.int .i64 x107000), .sc (.string x107001), .sc (.int .i64 x107002), .sc (.int .i64 x107003)]), (1, .mem [.sc (.int .i64 x108000), .sc (.string x108001), .sc (.int .i64 x108002), .sc (.int .i64 x108003)])]⟩ ∧ q ≤ k ∧ impl_signAt.l0 q x0 x1 x8 x51 x52 x53 x108000 x108001 x108002 x108003 = some r) := ⟨⟩
 apply late
 · intro lp0
   apply BZn.out
   exact BZn.go
 · intro q1 X hJ ih0
   clear H
   obtain ⟨x0, x1, x8, x51, x52, x53, x108000, x108001, x108002, x108003, x107000, x107001, x107002, x107003, rfl, hq, H⟩ := hJ
   cases q1 with
   | zero => (simp only [impl_signAt.l0] at H; cases H)
   | succ kq1 =>
    simp only [impl_signAt.l0] at H
    apply BZn.out
    exact BZn.go
end Go.Proofs.Ytppfilhlblnmcaa.PFnExactSignsOf
