/- Functions' walks: each computes what its plain form says. No condition. -/
import Derived.Test.YtppfilhlblnmcaaLkFnExactSignsOfh
open Go Go.Proofs Go.Proofs.Ytppfilhlblnmcaa.Abs
namespace Go.Proofs.Ytppfilhlblnmcaa.PFnExactSignsOf
open Go.RowKit Go.Proofs.YtppfilhlblnmcaaW.PrintWords Go.Proofs.YtppfilhlblnmcaaW.PrintLast Go.Proofs.YtppfilhlblnmcaaW.PrintMore
set_option linter.unusedVariables false
set_option linter.unusedSimpArgs false
set_option maxRecDepth 100000
attribute [local irreducible] evK evQ evM evF evW evH goE goK goKD goQ goQD goD Ok ACalls
theorem strings_IndexByte.link {a0 : ByteArray} {a1 r : Int} (H : strings_IndexByte.f a0 a1 = some r) : ACalls Try.prog 40 [.dat false [.sc (.string a0)], .dat false [.sc (.int .u8 a1)]] [(false, [.sc (.int .i64 r)])] [.dat false [.sc (.string a0)], .dat false [.sc (.int .u8 a1)]] := by
  obtain rfl := Option.some.inj H
  refine ACalls.dat2 ⟨_, Try.func40, by kernel_rfl, by kernel_rfl⟩ rfl (fun w A v1 v2 h1 h2 hA => ?_)
  obtain rfl := VRep.sc h1
  obtain rfl := VRep.sc h2
  refine (Try.strings_IndexByte a0 a1 w).mono ?_
  rintro e w' ⟨rfl, rfl⟩
  exact ⟨rfl, Below.refl _ _⟩

set_option maxHeartbeats 8000000 in
theorem spec_l04Mark.link {k : Nat} {a0 : Int} {r : Bool} (H : spec_l04Mark.f k a0 = some r) : ACalls Try.prog 36 [.dat false [.sc (.int .u8 a0)]] [(false, [.sc (.bool r)])] [.dat false [.sc (.int .u8 a0)]] := by
 refine ACalls.en Try.func36 Try.ntmps36 .go .go .go .go ?_
 intro C F hC hP hF hn (hx : C.fx = [])
 have kp : KL [0, 2, 3, 4, 8, 15] := ⟨⟩
 have kr : KR #[.tmp 2] := ⟨⟩
 simp only [spec_l04Mark.f] at H
 have w0 : LJ [0, 3, 4] (fun q X => ∃ x0, ∃ x3, ∃ x4, X = ⟨[(0, .dat false [.sc (.int .u8 x0)]), (3, .dat false [.sc (.string x3)]), (4, .dat false [.sc (.int .i64 x4)])], []⟩ ∧ q ≤ k ∧ spec_l04Mark.l0 q x0 x3 x4 = some r) := ⟨⟩
 apply late
 · intro lp0
   apply BZ.out
   exact BZ.go
 · intro q1 X hJ ih0
   clear H
   obtain ⟨x0, x3, x4, rfl, hq, H⟩ := hJ
   cases q1 with
   | zero => (simp only [spec_l04Mark.l0] at H; cases H)
   | succ kq1 =>
    simp only [spec_l04Mark.l0] at H
    apply BZn.out
    exact BZn.go
set_option maxHeartbeats 8000000 in
theorem impl_SignsOf_1.link {a0 : Int} {r : Bool} (H : impl_SignsOf_1.f a0 = some r) : ACalls Try.prog 24 [.dat false [.sc (.int .u8 a0)]] [(false, [.sc (.bool r)])] [.dat false [.sc (.int .u8 a0)]] := by
 refine ACalls.en Try.func24 Try.ntmps24 .go .go .go .go ?_
 intro C F hC hP hF hn (hx : C.fx = [])
 have kp : KL [0, 2] := ⟨⟩
 have kr : KR #[.tmp 2] := ⟨⟩
 simp only [impl_SignsOf_1.f] at H
 apply BZ.out
 exact BZ.go
set_option maxHeartbeats 8000000 in
theorem impl_letter.link {a0 : Int} {r : Bool} (H : impl_letter.f a0 = some r) : ACalls Try.prog 37 [.dat false [.sc (.int .u8 a0)]] [(false, [.sc (.bool r)])] [.dat false [.sc (.int .u8 a0)]] := by
 refine ACalls.en Try.func37 Try.ntmps37 .go .go .go .go ?_
 intro C F hC hP hF hn (hx : C.fx = [])
 have kp : KL [0, 2] := ⟨⟩
 have kr : KR #[.tmp 2] := ⟨⟩
 simp only [impl_letter.f] at H
 apply BZ.out
 exact BZ.go
set_option maxHeartbeats 8000000 in
theorem impl_figure.link {a0 : Int} {r : Bool} (H : impl_figure.f a0 = some r) : ACalls Try.prog 38 [.dat false [.sc (.int .u8 a0)]] [(false, [.sc (.bool r)])] [.dat false [.sc (.int .u8 a0)]] := by
 refine ACalls.en Try.func38 Try.ntmps38 .go .go .go .go ?_
 intro C F hC hP hF hn (hx : C.fx = [])
 have kp : KL [0, 2] := ⟨⟩
 have kr : KR #[.tmp 2] := ⟨⟩
 simp only [impl_figure.f] at H
 apply BZ.out
 exact BZ.go
set_option maxHeartbeats 8000000 in
theorem stringslite_HasPrefix.link {a0 : ByteArray} {a1 : ByteArray} {r : Bool} (H : stringslite_HasPrefix.f a0 a1 = some r) : ACalls Try.prog 44 [.dat false [.sc (.string a0)], .dat false [.sc (.string a1)]] [(false, [.sc (.bool r)])] [.dat false [.sc (.string a0)], .dat false [.sc (.string a1)]] := by
 refine ACalls.en Try.func44 Try.ntmps44 .go .go .go .go ?_
 intro C F hC hP hF hn (hx : C.fx = [])
 have kp : KL [0, 1, 4] := ⟨⟩
 have kr : KR #[.tmp 4] := ⟨⟩
 simp only [stringslite_HasPrefix.f] at H
 apply BZn.out
 exact BZn.go
set_option maxHeartbeats 8000000 in
theorem strings_HasPrefix.link {a0 : ByteArray} {a1 : ByteArray} {r : Bool} (H : strings_HasPrefix.f a0 a1 = some r) : ACalls Try.prog 39 [.dat false [.sc (.string a0)], .dat false [.sc (.string a1)]] [(false, [.sc (.bool r)])] [.dat false [.sc (.string a0)], .dat false [.sc (.string a1)]] := by
 refine ACalls.en Try.func39 Try.ntmps39 .go .go .go .go ?_
 intro C F hC hP hF hn (hx : C.fx = [])
 have kp : KL [0, 1, 4] := ⟨⟩
 have kr : KR #[.tmp 4] := ⟨⟩
 have c0 := Hold.mk @stringslite_HasPrefix.link
 simp only [strings_HasPrefix.f] at H
 apply BZ.out
 exact BZ.go
end Go.Proofs.Ytppfilhlblnmcaa.PFnExactSignsOf
