/- Functions' walks: each computes what its plain form says. No condition. -/
import Derived.Test.YtmbkcbgbienjoaaLkFnExactSharedh
import Derived.Test.YtmbkcbgbienjoaaLkFnExactSharedg
import Derived.Test.YtmbkcbgbienjoaaLkFnExactSharedi
open Go Go.Proofs Go.Proofs.Ytmbkcbgbienjoaa.Abs
namespace Go.Proofs.Ytmbkcbgbienjoaa.PFnExactShared
open Go.RowKit Go.Proofs.YtmbkcbgbienjoaaW.PrintWords Go.Proofs.YtmbkcbgbienjoaaW.PrintLast Go.Proofs.YtmbkcbgbienjoaaW.PrintMore
set_option linter.unusedVariables false
set_option linter.unusedSimpArgs false
set_option maxRecDepth 100000
attribute [local irreducible] evK evQ evM evF evW evH goE goK goKD goQ goQD goD Ok ACalls
attribute [local go_sem] inLine Option.map_some in
set_option maxHeartbeats 8000000 in
theorem impl_KeyWord.link {k : Nat} {a0 : ByteArray} {r : Bool} (H : impl_KeyWord.f k a0 = some r) : ACalls Try.prog 133 [.dat false [.sc (.string a0)]] [(false, [.sc (.bool r)])] [.dat false [.sc (.string a0)]] := by
 refine ACalls.en Try.func133 Try.ntmps133 .go .go .go .go ?_
 intro C F hC hP hF hn (hx : C.fx = [])
 have kp : KL [0, 2, 3] := ⟨⟩
 have kr : KR #[.tmp 2] := ⟨⟩
 have c0 := Hold.mk @slices_Contains_string_string.link
 simp only [impl_KeyWord.f] at H
 apply BZ.out
 exact BZ.go
set_option maxHeartbeats 8000000 in
theorem impl_run_impl_letter.link {k : Nat} {a0 : ByteArray} {a1 : Int} {r : Int} (H : impl_run_impl_letter.f k a0 a1 = some r) : ACalls Try.prog 131 [.dat false [.sc (.string a0)], .dat false [.sc (.int .i64 a1)], .clo 132 []] [(false, [.sc (.int .i64 r)])] [.dat false [.sc (.string a0)], .dat false [.sc (.int .i64 a1)], .clo 132 []] := by
 refine ACalls.en Try.func131 Try.ntmps131 .go .go .go .go ?_
 intro C F hC hP hF hn (hx : C.fx = [2])
 have kp : KL [0, 1, 2, 6, 17] := ⟨⟩
 have kr : KR #[.tmp 6] := ⟨⟩
 have c0 := Hold.mk @impl_letter.link
 simp only [impl_run_impl_letter.f] at H
 have w0 : LJ [0, 1, 2] (fun q X => ∃ x0, ∃ x1, X = ⟨[(0, .dat false [.sc (.string x0)]), (1, .dat false [.sc (.int .i64 x1)]), (2, .clo 132 [])], []⟩ ∧ q ≤ k ∧ impl_run_impl_letter.l0 q x0 x1 = some r) := ⟨⟩
 apply late
 · intro lp0
   apply BZ.out
   exact BZ.go
 · intro q1 X hJ ih0
   clear H
   obtain ⟨x0, x1, rfl, hq, H⟩ := hJ
   cases q1 with
   | zero => (simp only [impl_run_impl_letter.l0] at H; cases H)
   | succ kq1 =>
    simp only [impl_run_impl_letter.l0] at H
    apply BZn.out
    exact BZn.go
set_option maxHeartbeats 8000000 in
theorem impl_NameOk.link {k : Nat} {a0 : ByteArray} {r : Bool} (H : impl_NameOk.f k a0 = some r) : ACalls Try.prog 94 [.dat false [.sc (.string a0)]] [(false, [.sc (.bool r)])] [.dat false [.sc (.string a0)]] := by
 refine ACalls.en Try.func94 Try.ntmps94 .go .go .go .go ?_
 intro C F hC hP hF hn (hx : C.fx = [])
 have kp : KL [0, 2] := ⟨⟩
 have kr : KR #[.tmp 2] := ⟨⟩
 have c0 := Hold.mk @impl_within.link
 have c1 := Hold.mk @impl_KeyWord.link
 have c2 := Hold.mk @impl_run_impl_letter.link
 simp only [impl_NameOk.f] at H
 apply BZ.out
 exact BZ.go
set_option maxHeartbeats 8000000 in
theorem impl_namesOk.link {k : Nat} {a0_0 : Int} {a0_1 : Int} {a0_2 : ByteArray} {a0_3 : ByteArray} {a0_4 : ByteArray} {l0_5 : List Int} {r : Bool} (H : impl_namesOk.f k a0_0 a0_1 a0_2 a0_3 a0_4 l0_5 = some r) : ACalls Try.prog 82 [.dat true [.sc (.int .i64 a0_0), .sc (.int .i64 a0_1), .sc (.string a0_2), .sc (.string a0_3), .sc (.string a0_4), .sl none 1 (List.flatMap eI l0_5)]] [(false, [.sc (.bool r)])] [.dat true [.sc (.int .i64 a0_0), .sc (.int .i64 a0_1), .sc (.string a0_2), .sc (.string a0_3), .sc (.string a0_4), .sl none 1 (List.flatMap eI l0_5)]] := by
 refine ACalls.en Try.func82 Try.ntmps82 .go .go .go .go ?_
 intro C F hC hP hF hn (hx : C.fx = [])
 have kp : KL [0, 1, 2, 3, 4, 5, 6, 14, 15, 21, 29, 34] := ⟨⟩
 have kr : KR #[.tmp 2] := ⟨⟩
 have c0 := Hold.mk @impl_within.link
 have c1 := Hold.mk @impl_NameOk.link
 simp only [impl_namesOk.f] at H
 replace H := Hold.mk H
 have m0 : LM 1 15 [1, 3, 4, 5, 6, 14, 15] (fun X => ∃ x3, ∃ x4, ∃ x5, ∃ x6, ∃ x14, ∃ x15, ∃ x435000, ∃ x435001, ∃ x435002, ∃ x435003, ∃ x435004, ∃ x435005, ∃ q, X = ⟨[(1, .pl 0 none 0), (3, .dat false [.sc (.bool x3)]), (4, .dat false [.sc (.bool x4)]), (5, .dat false [.sc (.bool x5)]), (6, .dat false [.sc (.bool x6)]), (14, .dat false [.sc (.int .i64 x14)]), (15, .dat false [.sc (.bool x15)])], [(0, .mem [.sc (.int .i64 x435000), .sc (.int .i64 x435001), .sc (.string x435002), .sc (.string x435003), .sc (.string x435004), .sl none 1 (List.flatMap eI x435005)])]⟩ ∧ q ≤ k ∧ impl_namesOk.j0 q x3 x4 x5 x6 x14 x15 x435000 x435001 x435002 x435003 x435004 x435005 = some r) := ⟨⟩
 apply late
 · intro pa0
   apply late
   · intro pb0
     apply BZc.out
     exact BZc.go
   · clear H
     intro X hJ
     obtain ⟨x3, x4, x5, x6, x14, x15, x435000, x435001, x435002, x435003, x435004, x435005, q1, rfl, hq, H⟩ := hJ
     cases q1 with
     | zero => (simp only [impl_namesOk.j0] at H; cases H)
     | succ kq1 =>
      simp only [impl_namesOk.j0] at H
      apply BZ.out
      exact BZ.go
 · intro hj0
   replace H := H.out
   apply BZ.out
   exact BZ.go
end Go.Proofs.Ytmbkcbgbienjoaa.PFnExactShared
