/- Functions' walks: each computes what its plain form says. No condition. -/
import Derived.Test.YtmbkcbgbienjoaaLkFnExactSharedh
import Derived.Test.YtmbkcbgbienjoaaLkFnExactSharedc
import Derived.Test.YtmbkcbgbienjoaaLkFnExactSharedd
open Go Go.Proofs Go.Proofs.Ytmbkcbgbienjoaa.Abs
namespace Go.Proofs.Ytmbkcbgbienjoaa.PFnExactShared
open Go.RowKit Go.Proofs.YtmbkcbgbienjoaaW.PrintWords Go.Proofs.YtmbkcbgbienjoaaW.PrintLast Go.Proofs.YtmbkcbgbienjoaaW.PrintMore
set_option linter.unusedVariables false
set_option linter.unusedSimpArgs false
set_option maxRecDepth 100000
attribute [local irreducible] evK evQ evM evF evW evH goE goK goKD goQ goQD goD Ok ACalls
set_option maxHeartbeats 8000000 in
theorem spec_KeyWord.link {k : Nat} {a0 : ByteArray} {r : Bool} (H : spec_KeyWord.f k a0 = some r) : ACalls Try.prog 126 [.dat false [.sc (.string a0)]] [(false, [.sc (.bool r)])] [.dat false [.sc (.string a0)]] := by
 refine ACalls.en Try.func126 Try.ntmps126 .go .go .go .go ?_
 intro C F hC hP hF hn (hx : C.fx = [])
 have kp : KL [0, 2, 3, 4, 9, 17] := ⟨⟩
 have kr : KR #[.tmp 2] := ⟨⟩
 have c0 := Hold.mk @spec_l04Keys.link
 simp only [spec_KeyWord.f] at H
 have w0 : LJ [0, 3, 4] (fun q X => ∃ x0, ∃ x3, ∃ x4, X = ⟨[(0, .dat false [.sc (.string x0)]), (3, .bor 0 none 0 1 false), (4, .dat false [.sc (.int .i64 x4)])], [(0, .vir [.sl (some 0) 1 (List.flatMap eS x3)])]⟩ ∧ q ≤ k ∧ spec_KeyWord.l0 q x0 x3 x4 = some r) := ⟨⟩
 apply late
 · intro lp0
   apply BZ.out
   exact BZ.go
 · intro q1 X hJ ih0
   clear H
   obtain ⟨x0, x3, x4, rfl, hq, H⟩ := hJ
   cases q1 with
   | zero => (simp only [spec_KeyWord.l0] at H; cases H)
   | succ kq1 =>
    simp only [spec_KeyWord.l0] at H
    apply BZn.out
    exact BZn.go
set_option maxHeartbeats 8000000 in
theorem spec_NameOk.link {k : Nat} {a0 : ByteArray} {r : Bool} (H : spec_NameOk.f k a0 = some r) : ACalls Try.prog 77 [.dat false [.sc (.string a0)]] [(false, [.sc (.bool r)])] [.dat false [.sc (.string a0)]] := by
 refine ACalls.en Try.func77 Try.ntmps77 .go .go .go .go ?_
 intro C F hC hP hF hn (hx : C.fx = [])
 have kp : KL [0, 2, 3, 7, 19] := ⟨⟩
 have kr : KR #[.tmp 2] := ⟨⟩
 have c0 := Hold.mk @spec_l01In.link
 have c1 := Hold.mk @spec_KeyWord.link
 simp only [spec_NameOk.f] at H
 have w0 : LJ [0, 3] (fun q X => ∃ x0, ∃ x3, X = ⟨[(0, .dat false [.sc (.string x0)]), (3, .dat false [.sc (.int .i64 x3)])], []⟩ ∧ q ≤ k ∧ spec_NameOk.l0 q x0 x3 = some r) := ⟨⟩
 apply late
 · intro lp0
   apply BZ.out
   exact BZ.go
 · intro q1 X hJ ih0
   clear H
   obtain ⟨x0, x3, rfl, hq, H⟩ := hJ
   cases q1 with
   | zero => (simp only [spec_NameOk.l0] at H; cases H)
   | succ kq1 =>
    simp only [spec_NameOk.l0] at H
    apply BZn.out
    exact BZn.go
set_option maxHeartbeats 8000000 in
theorem slices_Index_int_int.link {k : Nat} {l0 : List Int} {a1 : Int} {r : Int} (H : slices_Index_int_int.f k l0 a1 = some r) : ACalls Try.prog 127 [.dat false [.sl none 1 (List.flatMap eI l0)], .dat false [.sc (.int .i64 a1)]] [(false, [.sc (.int .i64 r)])] [.dat false [.sl none 1 (List.flatMap eI l0)], .dat false [.sc (.int .i64 a1)]] := by
 refine ACalls.en Try.func127 Try.ntmps127 .go .go .go .go ?_
 intro C F hC hP hF hn (hx : C.fx = [])
 have kp : KL [0, 1, 4, 5, 7, 8, 9, 16] := ⟨⟩
 have kr : KR #[.tmp 4] := ⟨⟩
 simp only [slices_Index_int_int.f] at H
 have w0 : LJ [0, 1, 7, 8] (fun q X => ∃ x0, ∃ x1, ∃ x7, ∃ x8, X = ⟨[(0, .dat false [.sl none 1 (List.flatMap eI x0)]), (1, .dat false [.sc (.int .i64 x1)]), (7, .dat false [.sc (.int .i64 x7)]), (8, .dat false [.sc (.int .i64 x8)])], []⟩ ∧ q ≤ k ∧ slices_Index_int_int.l0 q x0 x1 x7 x8 = some r) := ⟨⟩
 apply late
 · intro lp0
   apply BZ.out
   exact BZ.go
 · intro q1 X hJ ih0
   clear H
   obtain ⟨x0, x1, x7, x8, rfl, hq, H⟩ := hJ
   cases q1 with
   | zero => (simp only [slices_Index_int_int.l0] at H; cases H)
   | succ kq1 =>
    simp only [slices_Index_int_int.l0] at H
    apply BZn.out
    exact BZn.go
set_option maxHeartbeats 8000000 in
theorem slices_Contains_int_int.link {k : Nat} {l0 : List Int} {a1 : Int} {r : Bool} (H : slices_Contains_int_int.f k l0 a1 = some r) : ACalls Try.prog 80 [.dat false [.sl none 1 (List.flatMap eI l0)], .dat false [.sc (.int .i64 a1)]] [(false, [.sc (.bool r)])] [.dat false [.sl none 1 (List.flatMap eI l0)], .dat false [.sc (.int .i64 a1)]] := by
 refine ACalls.en Try.func80 Try.ntmps80 .go .go .go .go ?_
 intro C F hC hP hF hn (hx : C.fx = [])
 have kp : KL [0, 1, 4] := ⟨⟩
 have kr : KR #[.tmp 4] := ⟨⟩
 have c0 := Hold.mk @slices_Index_int_int.link
 simp only [slices_Contains_int_int.f] at H
 apply BZ.out
 exact BZ.go
end Go.Proofs.Ytmbkcbgbienjoaa.PFnExactShared
