/- Functions' walks: each computes what its plain form says. No condition. -/
import Derived.Test.YtmbkcbgbienjoaaLkFnExactCallsOfh
import Derived.Test.YtmbkcbgbienjoaaLkFnExactCallsOfe
import Derived.Test.YtmbkcbgbienjoaaLkFnExactCallsOff
open Go Go.Proofs Go.Proofs.Ytmbkcbgbienjoaa.Abs
namespace Go.Proofs.Ytmbkcbgbienjoaa.PFnExactCallsOf
open Go.RowKit Go.Proofs.YtmbkcbgbienjoaaW.PrintWords Go.Proofs.YtmbkcbgbienjoaaW.PrintLast Go.Proofs.YtmbkcbgbienjoaaW.PrintMore
set_option linter.unusedVariables false
set_option linter.unusedSimpArgs false
set_option maxRecDepth 100000
attribute [local irreducible] evK evQ evM evF evW evH goE goK goKD goQ goQD goD Ok ACalls
set_option maxHeartbeats 8000000 in
theorem impl_namesOk.link {k : Nat} {a0_0 : Int} {a0_1 : Int} {a0_2 : ByteArray} {a0_3 : ByteArray} {a0_4 : ByteArray} {l0_5 : List Int} {r : Bool} (H : impl_namesOk.f k a0_0 a0_1 a0_2 a0_3 a0_4 l0_5 = some r) : ACalls Try.prog 82 [.dat true [.sc (.int .i64 a0_0), .sc (.int .i64 a0_1), .sc (.string a0_2), .sc (.string a0_3), .sc (.string a0_4), .sl none 1 (List.flatMap eI l0_5)]] [(false, [.sc (.bool r)])] [.dat true [.sc (.int .i64 a0_0), .sc (.int .i64 a0_1), .sc (.string a0_2), .sc (.string a0_3), .sc (.string a0_4), .sl none 1 (List.flatMap eI l0_5)]] := by
 refine ACalls.en Try.func82 Try.ntmps82 .go .go .go .go ?_
 intro C F hC hP hF hn (hx : C.fx = [])
 have kp : KL [0, 1, 2, 3, 4, 5, 6, 14, 15, 21, 29, 34] := ⟨⟩
 have kr : KR #[.tmp 2] := ⟨⟩
 have c0 := Hold.mk @impl_within.link
 have c1 := Hold.mk @impl_NameOk.link
 simp only [impl_namesOk.f] at H
 replace H := Hold.mk H
 have m0 : LM 1 15 [1, 3, 4, 5, 6, 14, 15] (fun X => ∃ x3, ∃ x4, ∃ x5, ∃ x6, ∃ x14, ∃ x15, ∃ x444000, ∃ x444001, ∃ x444002, ∃ x444003, ∃ x444004, ∃ x444005, ∃ q, X = ⟨[(1, .pl 0 none 0), (3, .dat false [.sc (.bool x3)]), (4, .dat false [.sc (.bool x4)]), (5, .dat false [.sc (.bool x5)]), (6, .dat false [.sc (.bool x6)]), (14, .dat false [.sc (.int .i64 x14)]), (15, .dat false [.sc (.bool x15)])], [(0, .mem [.sc (.int .i64 x444000), .sc (.int .i64 x444001), .sc (.string x444002), .sc (.string x444003), .sc (.string x444004), .sl none 1 (List.flatMap eI x444005)])]⟩ ∧ q ≤ k ∧ impl_namesOk.j0 q x3 x4 x5 x6 x14 x15 x444000 x444001 x444002 x444003 x444004 x444005 = some r) := ⟨⟩
 apply late
 · intro pa0
   apply late
   · intro pb0
     apply BZc.out
     exact BZc.go
   · clear H
     intro X hJ
     obtain ⟨x3, x4, x5, x6, x14, x15, x444000, x444001, x444002, x444003, x444004, x444005, q1, rfl, hq, H⟩ := hJ
     cases q1 with
     | zero => (simp only [impl_namesOk.j0] at H; cases H)
     | succ kq1 =>
      simp only [impl_namesOk.j0] at H
      apply BZ.out
      exact BZ.go
 · intro hj0
   replace H := H.out
   apply BZ.out
   exact BZ.go
end Go.Proofs.Ytmbkcbgbienjoaa.PFnExactCallsOf
